/-
  The reference's layer 14: all, the records of a message one behind the other.
-/
import Derived.Test.YtlmgdogblbigpaaGQ
namespace Go.Proofs.Ytlmgdogblbigpaa
open Go.RowKit
set_option maxRecDepth 100000
set_option linter.unusedVariables false
set_option linter.unusedSimpArgs false

/-- Cells, record by record. -/
def Rows (w : World) : List (List Value) → List RR → Prop
  | [], [] => True
  | cs :: css, r :: l => RRis w cs r ∧ Rows w css l
  | _, _ => False
theorem Rows.len {w : World} : ∀ {css : List (List Value)} {l : List RR}, Rows w css l → css.flatten.length = l.length * 33
  | [], [], _ => rfl
  | cs :: css, r :: l, h => by
    have := h.2.len
    have := h.1.len
    simp only [List.flatten_cons, List.length_append, List.length_cons]
    omega
theorem Rows.one {w : World} : ∀ {css : List (List Value)} {l : List RR}, Rows w css l → ∀ v ∈ css.flatten, v.oneCell' = true
  | [], [], _ => by simp
  | cs :: css, r :: l, h => by
    intro v hv
    simp only [List.flatten_cons, List.mem_append] at hv
    rcases hv with hv | hv
    · exact h.1.one v hv
    · exact h.2.one v hv
theorem Rows.app {w : World} : ∀ {css dss : List (List Value)} {l k : List RR}, Rows w css l → Rows w dss k → Rows w (css ++ dss) (l ++ k)
  | [], _, [], _, _, h' => h'
  | cs :: css, dss, r :: l, k, h, h' => ⟨h.1, Rows.app h.2 h'⟩
theorem Rows.get {w : World} : ∀ {css : List (List Value)} {l : List RR}, Rows w css l → ∀ (rest : List Value) (i : Nat) (hi : i < l.length), ∃ cs, ((css.flatten ++ rest).drop (i * 33)).take 33 = cs ∧ RRis w cs l[i]
  | [], [], _, _, i, hi => absurd hi (by simp)
  | cs :: css, r :: l, h, rest, 0, hi => by
    refine ⟨cs, ?_, h.1⟩
    simp only [List.flatten_cons, Nat.zero_mul, List.drop_zero, List.append_assoc]
    exact List.take_left' h.1.len
  | cs :: css, r :: l, h, rest, i + 1, hi => by
    obtain ⟨ck, h1, h2⟩ := Rows.get h.2 rest i (by simpa using hi)
    refine ⟨ck, ?_, by simpa using h2⟩
    rw [← h1]
    simp only [List.flatten_cons, List.append_assoc]
    rw [show (i + 1) * 33 = cs.length + i * 33 by rw [h.1.len]; omega, ← List.drop_drop, List.drop_left]
theorem Rows.below {w w' : World} (hb : Below w.heap.size w w') : ∀ {css : List (List Value)} {l : List RR}, Rows w css l → Rows w' css l
  | [], [], _ => trivial
  | cs :: css, r :: l, h => ⟨h.1.below hb, Rows.below hb h.2⟩
theorem rows_of {w w0 : World} {b : Nat} : ∀ (l : List RR) (off : Nat), (∀ i (hi : i < l.length), ∃ cs, w.rangeAt b (off + i * 33) cs ∧ RRis w0 cs l[i]) → ∃ css, Rows w0 css l ∧ w.rangeAt b off css.flatten
  | [], off, _ => ⟨[], trivial, fun j v hv => by simp at hv⟩
  | r :: l, off, h => by
    obtain ⟨cs, h1, h2⟩ := h 0 (by simp)
    obtain ⟨css, h3, h4⟩ := rows_of l (off + 33) (fun i hi => by
      obtain ⟨cs, h5, h6⟩ := h (i + 1) (by simpa using hi)
      refine ⟨cs, ?_, by simpa using h6⟩
      rwa [show off + (i + 1) * 33 = off + 33 + i * 33 by omega] at h5)
    refine ⟨cs :: css, ⟨by simpa using h2, h3⟩, fun j v hv => ?_⟩
    simp only [List.flatten_cons] at hv
    have hl : cs.length = 33 := h2.len
    by_cases hj : j < cs.length
    · rw [List.getElem?_append_left hj] at hv
      have := h1 j v hv
      simpa using this
    · rw [List.getElem?_append_right (by omega)] at hv
      have := h4 (j - cs.length) v hv
      rwa [show off + 33 + (j - cs.length) = off + j by omega] at this
theorem rrInfo3 : (Try.prog.info? 86).map (fun i => (i.zero, i.size, i.bytes)) = some (some (.agg rrZ.toArray), 33, 208) := by kernel_rfl
theorem run_appR (w : World) (ty : TypeId) (B : Nat) (v : Value) (n : Nat) (xs : List Value) (hown : w.ownsRow B 86 33 v n xs) (hB : B ≤ w.heap.size) (A : Option Addr) (m c : Nat) (news : List Value) (hn : 0 < m → ∃ b off, A = some ⟨b, off, none⟩ ∧ w.rangeAt b off news) (hl : news.length = m * 33) (h1 : ∀ u ∈ news, u.oneCell' = true) (hb : n + m ≤ 300000) :
    ∃ v' w', (Builtin.append_ #[50, 50] ty #[v, .slice A m c]).run Try.prog w = .ok v' w' ∧ w'.ownsRow B 86 33 v' (n + m) (xs ++ news) ∧ w.grownBy w' v.ownBlock := by
  obtain ⟨i, hi, hz, hsize, hby⟩ := info_parts rrInfo3
  by_cases hm : 0 < m
  · obtain ⟨b, off, rfl, hr⟩ := hn hm
    obtain ⟨v', w', hr, h2, h3, _, h5⟩ := run_append_own_at (P := Try.prog) w B 50 ty 86 i _ 33 208 Try.underlying50 hi hz hsize hby (by rw [show (Value.agg rrZ.toArray).cells = rrZ.toArray from rfl]; simp [rrZ_len]) (by omega) v n xs hown ⟨b, off, none⟩ m c news hl (fun j u hu => by
      have hadd : (⟨b, off, none⟩ : Addr).add j = ⟨b, off + j, none⟩ := by unfold Addr.add; split <;> simp_all
      rw [hadd]; exact hr j u hu) h1 (by simp only [maxLen]; omega) (by omega) hB
    exact ⟨v', w', hr, h2, h3⟩
  · obtain rfl : m = 0 := by omega
    have hnil : news = [] := List.length_eq_zero_iff.1 (by omega)
    subst hnil
    have hv : ∃ A' c', v = .slice A' n c' ∧ n ≤ c' := by
      rcases hown.2 with ⟨rfl, rfl⟩ | ⟨g, cap, cur, rfl, _, _, hc, _⟩
      · exact ⟨none, 0, rfl, Nat.le_refl _⟩
      · exact ⟨_, _, rfl, hc⟩
    obtain ⟨A', c', rfl, hcap⟩ := hv
    refine ⟨.slice A' n c', w, ?_, by simpa using hown, World.grownBy.refl _ _⟩
    cases A with
    | none => cases A' <;> simp [Builtin.append_, run_underlying Try.underlying50, sizeOf, typeInfo, hi, hsize, Builtin.lenOf, hcap, Builtin.firstCells, storeCells]
    | some ad =>
      have hl0 : (loadCells ad 0).run Try.prog w = .ok #[] w := rfl
      cases A' <;> simp [hl0, Builtin.append_, run_underlying Try.underlying50, sizeOf, typeInfo, hi, hsize, Builtin.lenOf, hcap, Builtin.firstCells, storeCells]
theorem wpList_appR (w : World) {ops : Array Oper} {rest : List Oper} {o : Oper} {a : Act} {Q : Exit → Act → World → Prop} (hgd : o.guard = none) (s x : Operand)
    (ho : o.op = .call { callee := .builtin .append, args := #[s, x], argTypes := #[50, 50] })
    (B : Nat) (v : Value) (n : Nat) (xs : List Value) (hs : a.eval s = v) (hown : w.ownsRow B 86 33 v n xs) (hB : B ≤ w.heap.size) (A : Option Addr) (m c : Nat) (news : List Value) (hx : a.eval x = .slice A m c)
    (hn : 0 < m → ∃ b off, A = some ⟨b, off, none⟩ ∧ w.rangeAt b off news) (hl : news.length = m * 33) (h1 : ∀ u ∈ news, u.oneCell' = true) (hb : n + m ≤ 300000) (k : Nat) (hk : k = n + m)
    (h : ∀ A' c' w', w'.ownsRow B 86 33 (.slice A' k c') k (xs ++ news) → w.grownBy w' v.ownBlock → wpList Try.prog ops Q rest (a.put o.dst (.slice A' k c')) w') :
    wpList Try.prog ops Q (o :: rest) a w := by
  subst hk
  refine wpList_plain hgd fun K hK => ?_
  obtain ⟨v', w', hr, h2, h3⟩ := run_appR w o.type B v n xs hown hB A m c news hn hl h1 hb
  obtain ⟨A', c', rfl⟩ := own_form h2
  unfold Oper.wp execOp
  simp only [ho, resolve, invoke, builtin, Sem.run_bind, Sem.run_pure, Result.andThen_ok, List.map_toArray, List.map_cons, List.map_nil, hs, hx, hr]
  exact hK _ _ (h A' c' w' h2 h3)
theorem ownsRow_base {w : World} {B : Nat} {e : TypeId} {s n : Nat} {v : Value} {xs : List Value} (h : w.ownsRow B e s v n xs) : ∀ k, v.ownBlock = some k → B ≤ k := by
  intro k hk
  rcases h.2 with ⟨rfl, rfl⟩ | ⟨g', cap, cur, rfl, hB, _⟩
  · simp [Value.ownBlock] at hk
  · have : g' = k := by simpa [Value.ownBlock] using hk
    omega
/-- A list of records of one's own. -/
def RowR (w0 w : World) (A : Option Addr) (l : List RR) : Prop := 0 < l.length → ∃ g cur, A = some ⟨g, 0, none⟩ ∧ Blk w g 86 cur ∧ l.length * 33 ≤ cur.length ∧ ∀ i (hi : i < l.length), ∃ cs, (cur.drop (i * 33)).take 33 = cs ∧ RRis w0 cs l[i]
def AllRet (w0 : World) (l : List RR) (w : World) (e : Ending) (w' : World) : Prop := ∃ A c, e = .returned (.slice A l.length c) ∧ RowR w0 w' A l ∧ Below w.heap.size w w'
theorem rowR_of {w0 w : World} {B : Nat} {A : Option Addr} {c : Nat} {css : List (List Value)} {l : List RR} (hown : w.ownsRow B 86 33 (.slice A l.length c) l.length css.flatten) (hr : Rows w0 css l) : RowR w0 w A l := by
  intro hp
  rcases hown.2 with ⟨_, h0⟩ | ⟨g, cap, cur, hv, hB, hg, hc, hm, hs, ht⟩
  · omega
  · injection hv with h1 h2 h3
    have hcl : cur.toList.length = cur.size := by simp
    have htk : cur.toList = css.flatten ++ cur.toList.drop (l.length * 33) := by rw [← ht, List.take_append_drop]
    refine ⟨g, cur.toList, h1, hg, ?_, fun i hi => ?_⟩
    · rw [hcl, hs]; exact Nat.mul_le_mul_right _ hc
    · rw [htk]; exact hr.get _ i hi
theorem RRsR.rows {w : World} {A : Option Addr} {l : List RR} (h : RRsR w A l) : ∃ css, Rows w css l ∧ (0 < l.length → ∃ b off, A = some ⟨b, off, none⟩ ∧ b < w.heap.size ∧ w.rangeAt b off css.flatten) := by
  by_cases hp : 0 < l.length
  · obtain ⟨b, off, h1, h2, h3⟩ := h hp
    obtain ⟨css, h4, h5⟩ := rows_of l off h3
    exact ⟨css, h4, fun _ => ⟨b, off, h1, h2, h5⟩⟩
  · obtain rfl : l = [] := List.length_eq_zero_iff.1 (by omega)
    exact ⟨[], trivial, fun h => absurd h hp⟩
set_option maxHeartbeats 1000000 in
theorem all_any (cs : List Value) (m : Msg) (Aq Aa Au Ae : Option Addr) (cq ca cu ce : Nat) (w0 w : World) (h : MsgIs w0 cs m Aq Aa Au Ae cq ca cu ce) (hb0 : Below w0.heap.size w0 w) (ha : m.an.length ≤ 65535) (hu : m.au.length ≤ 65535) (he : m.ex.length ≤ 65535) :
    Calls Try.prog 73 #[.agg cs.toArray] w (AllRet w0 m.rrs w) := by
  have hcs := h.hcs
  have hl : cs.length = 14 := by rw [hcs]; exact msgC_len _ _ _ _ _
  have L11 : cs[11]? = some (.slice Aa m.an.length ca) := by rw [hcs]; rfl
  have L12 : cs[12]? = some (.slice Au m.au.length cu) := by rw [hcs]; rfl
  have L13 : cs[13]? = some (.slice Ae m.ex.length ce) := by rw [hcs]; rfl
  obtain ⟨sa, ra, qa⟩ := h.ha.rows
  obtain ⟨su, ru, qu⟩ := h.hu.rows
  obtain ⟨se, re, qe⟩ := h.he.rows
  have RA := Lib.hid ((ra.app ru).app re)
  have la := ra.len
  have lu := ru.len
  have le := re.len
  have oa := Lib.hid ra.one
  have ou := Lib.hid ru.one
  have oe := Lib.hid re.one
  have QA := Lib.hid (fun (w' : World) (b : Below w0.heap.size w0 w') => (fun hp => by obtain ⟨b1, o1, e1, e2, e3⟩ := qa hp; exact ⟨b1, o1, e1, range_below e3 b e2⟩ : 0 < m.an.length → ∃ b off, Aa = some ⟨b, off, none⟩ ∧ w'.rangeAt b off sa.flatten))
  have QU := Lib.hid (fun (w' : World) (b : Below w0.heap.size w0 w') => (fun hp => by obtain ⟨b1, o1, e1, e2, e3⟩ := qu hp; exact ⟨b1, o1, e1, range_below e3 b e2⟩ : 0 < m.au.length → ∃ b off, Au = some ⟨b, off, none⟩ ∧ w'.rangeAt b off su.flatten))
  have QE := Lib.hid (fun (w' : World) (b : Below w0.heap.size w0 w') => (fun hp => by obtain ⟨b1, o1, e1, e2, e3⟩ := qe hp; exact ⟨b1, o1, e1, range_below e3 b e2⟩ : 0 < m.ex.length → ∃ b off, Ae = some ⟨b, off, none⟩ ∧ w'.rangeAt b off se.flatten))
  have hlen : m.rrs.length = m.an.length + m.au.length + m.ex.length := by simp [Msg.rrs]; omega
  replace RA : Hid (Rows w0 (sa ++ su ++ se) m.rrs) := RA
  have hfl : (sa ++ su ++ se).flatten = sa.flatten ++ su.flatten ++ se.flatten := by simp
  clear h hcs qa qu qe ra ru re
  generalize m.rrs = R at *
  generalize m.an.length = na at *
  generalize m.au.length = nu at *
  generalize m.ex.length = ne at *
  have B0 := Blk.new w 52 cs
  have HB0 : Below w.heap.size w (w.alloc (.cells cs.toArray 52)) := (Below.refl _ _).alloc (Nat.le_refl _) _
  have c11 := B0.cell_ 11 L11
  have hs0 : w0.heap.size ≤ w.heap.size := hb0.size
  go_enter Try.func73, Try.ntmps73
  go_wp2_with (at_builtin; go_must (refine wpList_appR _ rfl (.tmp 4) (.tmp 6) rfl w.heap.size (.slice none 0 0) 0 [] rfl (World.ownsRow_nil _ _ _ _) HB0.size Aa na ca sa.flatten rfl (QA.out _ (below_then hb0 hb0.size HB0)) la oa.out (by omega) na (by omega) ?_))
  intro A1 c1 w1 o1 g1
  have B1 := B0.grown g1 (by simp [Value.ownBlock])
  have HB1 : Below w.heap.size w w1 := HB0.grown g1 HB0.size (fun k hk => by simp [Value.ownBlock] at hk)
  clear c11 B0 g1 HB0
  have c12 := B1.cell_ 12 L12
  go_wp2_with (at_builtin; go_must (refine wpList_appR _ rfl (.tmp 8) (.tmp 10) rfl w.heap.size _ na _ rfl o1 HB1.size Au nu cu su.flatten rfl (QU.out _ (below_then hb0 hb0.size HB1)) lu ou.out (by omega) (na + nu) (by omega) ?_))
  intro A2 c2 w2 o2 g2
  have B2 := blk_own B1 o1 (by decide) g2
  have HB2 : Below w.heap.size w w2 := HB1.grown g2 HB1.size (ownsRow_base o1)
  clear c12 B1 g2 HB1 o1
  have c13 := B2.cell_ 13 L13
  go_wp2_with (at_builtin; go_must (refine wpList_appR _ rfl (.tmp 12) (.tmp 14) rfl w.heap.size _ (na + nu) _ rfl o2 HB2.size Ae ne ce se.flatten rfl (QE.out _ (below_then hb0 hb0.size HB2)) le oe.out (by omega) R.length (by omega) ?_))
  intro A3 c3 w3 o3 g3
  have HB3 : Below w.heap.size w w3 := HB2.grown g3 HB2.size (ownsRow_base o2)
  have o3' : w3.ownsRow w.heap.size 86 33 (.slice A3 R.length c3) R.length (sa ++ su ++ se).flatten := by rw [hfl, hlen]; simpa using o3
  have RR3 := rowR_of o3' RA.out
  clear c13 B2 g3 HB2 o2 o3 o3'
  go_wp2_with fail
  go_ret
  exact ⟨A3, c3, by rw [hlen]; rfl, RR3, HB3⟩
end Go.Proofs.Ytlmgdogblbigpaa
