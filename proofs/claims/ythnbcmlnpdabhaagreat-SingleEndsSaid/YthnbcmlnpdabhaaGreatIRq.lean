/-
  Arguments of layer 29's laws: what the reading of a task says of its cells.
-/
import Derived.Test.YthnbcmlnpdabhaaGreatIQq
namespace Go.Proofs.YthnbcmlnpdabhaaGreat
open _root_.Go.Proofs.Tryz
open Go.ChangeShapes Go.WideShapes Go.ChangeAt Go.RowKit
set_option maxRecDepth 100000
set_option linter.unusedVariables false
set_option linter.unusedSimpArgs false
section
variable {H : Type} {enc : TypeId × Value → H} {w : World} {cs : List Value}
theorem seen_list {α : Type} [Inhabited α] {t e : TypeId} {k by_ : Nat} (ht : prog.underlying t = some (.slice e)) (hc : prog.cellsOf e = k) (hk : 0 < k) (hb : prog.bytesOf e = by_) (hby : 8 ≤ by_) (R : List Value → α → Prop) (key : ∀ cs', cs'.length = k → SeenW enc prog w e cs' → ∃ x, R cs' x)
  (h : SeenW enc prog w t cs) : ∃ A c l, cs = [.slice A (l : List α).length c] ∧ LIn w k R A l ∧ l.length ≤ 17592186044416 := by
 obtain ⟨A, n, c, rfl, hnc, _, hby2, hn⟩ := h.slice ht (by rw [hc]; exact hk)
 rw [hb] at hby2
 have hn8 : n * 8 ≤ n * by_ := Nat.mul_le_mul_left _ hby
 by_cases hpos : 0 < n
 ·
  obtain ⟨b, off, rfl, hbl, hi⟩ := hn hpos
  rw [hc] at hi
  have key2 : ∀ i, i < n → ∃ x : α, ∃ cs', w.rangeAt b (off + i * k) cs' ∧ R cs' x := by
   intro i hin
   obtain ⟨cs', hl, hc', hs⟩ := hi i hin
   obtain ⟨x, hx⟩ := key cs' hl hs
   refine ⟨x, cs', fun j v hv => ?_, hx⟩
   have hj : j < k := by rw [← hl]; exact (List.getElem?_eq_some_iff.1 hv).1
   rw [hc' j hj]; exact hv
  obtain ⟨f, hf⟩ := Deep.choose_lt key2
  refine ⟨some ⟨b, off, none⟩, c, (List.range n).map f, by simp, fun _ => ⟨b, off, rfl, hbl, fun i hin => ?_⟩, by simp; omega⟩
  have hin' : i < n := by simpa using hin
  obtain ⟨cs', h1, h2⟩ := hf i hin'
  exact ⟨cs', h1, by simpa using h2⟩
 ·
  obtain rfl : n = 0 := by omega
  exact ⟨A, c, [], rfl, fun h => absurd h (by simp), by simp⟩
instance : Inhabited Adr := ⟨Adr.zero⟩
theorem seen_adrs (h : SeenW enc prog w 65 cs) : ∃ A c l, cs = [.slice A (l : List Adr).length c] ∧ AdsR w A l ∧ l.length ≤ 17592186044416 :=
 seen_list underlying65 (k := 18) (by kernel_rfl) (by decide) (by_ := 32) (by kernel_rfl) (by decide) AdI (fun cs' _ hs => by obtain ⟨a, h1, h2⟩ := seen_adr hs; exact ⟨a, h2, h1⟩) h
theorem seen_pf (h : SeenW enc prog w 236 cs) : ∃ p : Adr × Int, PfI cs p := by
 have c19 : prog.cellsOf 236 = 19 := by kernel_rfl
 have c1 : prog.cellsOf 3 = 1 := by kernel_rfl
 have ca : prog.cellsOf 24 = 18 := by kernel_rfl
 obtain ⟨hl, hf⟩ := h.struct underlying236
 rw [c19] at hl
 have h0 : SeenW enc prog w 24 ((cs.drop 0).take (prog.cellsOf 24)) := hf 0 _ rfl
 have h1 : SeenW enc prog w 3 ((cs.drop 18).take (prog.cellsOf 3)) := hf 1 _ rfl
 rw [ca] at h0
 rw [c1] at h1
 obtain ⟨a, ha, e0⟩ := seen_adr h0
 obtain ⟨n, e1⟩ := seen_int h1
 refine ⟨(a, n), ?_, ha⟩
 show cs.drop 0 = _
 rw [dsplit cs 0 18 18 rfl, e0, dsplit cs 18 1 19 rfl, e1, List.drop_of_length_le (by omega)]
 rfl
theorem seen_pfs (h : SeenW enc prog w 67 cs) : ∃ A c l, cs = [.slice A (l : List (Adr × Int)).length c] ∧ PfsR w A l ∧ l.length ≤ 17592186044416 :=
 seen_list underlying67 (k := 19) (by kernel_rfl) (by decide) (by_ := 40) (by kernel_rfl) (by decide) PfI (fun cs' _ hs => seen_pf hs) h
theorem seen_nms (h : SeenW enc prog w 66 cs) : ∃ A c ls, cs = [.slice A (ls : List (List (List UInt8))).length c] ∧ NmsR w A ls ∧ ls.length ≤ 17592186044416 := by
 obtain ⟨A, c, l, h1, h2, h3⟩ := seen_list (α := List (List UInt8)) underlying66 (k := 1) (by kernel_rfl) (by decide) (by_ := 24) (by kernel_rfl) (by decide) (fun cs' n => ∃ A c, cs' = [.slice A n.length c] ∧ NmR w A c n) (fun cs' _ hs => by
  obtain ⟨Ai, ci, l, rfl, hR⟩ := seen_texts underlying26 hs
  exact ⟨l, Ai, ci, rfl, hR⟩) h
 refine ⟨A, c, l, h1, fun hp => ?_, h3⟩
 obtain ⟨b, off, k1, k2, k3⟩ := h2 hp
 refine ⟨b, off, k1, k2, fun i hi => ?_⟩
 obtain ⟨cs', r1, Ai, ci, rfl, hR⟩ := k3 i hi
 refine ⟨Ai, ci, ?_, hR⟩
 have := r1 0 _ rfl
 simpa using this
theorem seen_drws (h : SeenW enc prog w 70 cs) : ∃ A c l, cs = [.slice A (l : List Int).length c] ∧ DrwsR w A l := by
 obtain ⟨A, c, l, h1, h2, h3⟩ := seen_list (α := Int) underlying70 (k := 1) (by kernel_rfl) (by decide) (by_ := 8) (by kernel_rfl) (by decide) (fun cs' n => cs' = [.int .i64 n]) (fun cs' _ hs => by
  obtain ⟨n, rfl⟩ := seen_int hs
  exact ⟨n, rfl⟩) h
 refine ⟨A, c, l, h1, fun hp => ?_⟩
 obtain ⟨b, off, k1, k2, k3⟩ := h2 hp
 refine ⟨b, off, k1, k2, fun j v hv => ?_⟩
 unfold i64s at hv
 rw [List.getElem?_map] at hv
 obtain ⟨x, hx, rfl⟩ := Option.map_eq_some_iff.1 hv
 obtain ⟨hj, hx⟩ := List.getElem?_eq_some_iff.1 hx
 obtain ⟨cs', r1, r2⟩ := k3 j hj
 subst r2
 have := r1 0 _ rfl
 rw [hx] at this
 simpa using this
theorem seen_rs (h : SeenW enc prog w 69 cs) : ∃ r : Rs, RsIs w cs r := by
 have c10 : prog.cellsOf 69 = 10 := by kernel_rfl
 have c1 : prog.cellsOf 3 = 1 := by kernel_rfl
 have cb : prog.cellsOf 4 = 1 := by kernel_rfl
 have ca : prog.cellsOf 65 = 1 := by kernel_rfl
 have cn : prog.cellsOf 66 = 1 := by kernel_rfl
 have cp : prog.cellsOf 67 = 1 := by kernel_rfl
 obtain ⟨hl, hf⟩ := h.struct underlying69
 rw [c10] at hl
 have h0 : SeenW enc prog w 65 ((cs.drop 0).take (prog.cellsOf 65)) := hf 0 _ rfl
 have h1 : SeenW enc prog w 66 ((cs.drop 1).take (prog.cellsOf 66)) := hf 1 _ rfl
 have h2 : SeenW enc prog w 67 ((cs.drop 2).take (prog.cellsOf 67)) := hf 2 _ rfl
 have h3 : SeenW enc prog w 3 ((cs.drop 3).take (prog.cellsOf 3)) := hf 3 _ rfl
 have h4 : SeenW enc prog w 3 ((cs.drop 4).take (prog.cellsOf 3)) := hf 4 _ rfl
 have h5 : SeenW enc prog w 3 ((cs.drop 5).take (prog.cellsOf 3)) := hf 5 _ rfl
 have h6 : SeenW enc prog w 4 ((cs.drop 6).take (prog.cellsOf 4)) := hf 6 _ rfl
 have h7 : SeenW enc prog w 4 ((cs.drop 7).take (prog.cellsOf 4)) := hf 7 _ rfl
 have h8 : SeenW enc prog w 4 ((cs.drop 8).take (prog.cellsOf 4)) := hf 8 _ rfl
 have h9 : SeenW enc prog w 4 ((cs.drop 9).take (prog.cellsOf 4)) := hf 9 _ rfl
 rw [ca] at h0
 rw [cn] at h1
 rw [cp] at h2
 rw [c1] at h3 h4 h5
 rw [cb] at h6 h7 h8 h9
 obtain ⟨A1, k1, s1, e0, r0, l0⟩ := seen_adrs h0
 obtain ⟨A2, k2, s2, e1, r1, l1⟩ := seen_nms h1
 obtain ⟨A3, k3, s3, e2, r2, l2⟩ := seen_pfs h2
 obtain ⟨nd, e3⟩ := seen_int h3
 obtain ⟨tmo, e4⟩ := seen_int h4
 obtain ⟨att, e5⟩ := seen_int h5
 obtain ⟨ro, e6⟩ := seen_bool h6
 obtain ⟨vc, e7⟩ := seen_bool h7
 obtain ⟨si, e8⟩ := seen_bool h8
 obtain ⟨ed, e9⟩ := seen_bool h9
 refine ⟨⟨s1, s2, s3, nd, tmo, att, ro, vc, si, ed⟩, A1, k1, A2, k2, A3, k3, ?_, r0, r1, r2, l0, l1, l2⟩
 show cs.drop 0 = _
 rw [dsplit cs 0 1 1 rfl, e0, dsplit cs 1 1 2 rfl, e1, dsplit cs 2 1 3 rfl, e2, dsplit cs 3 1 4 rfl, e3, dsplit cs 4 1 5 rfl, e4, dsplit cs 5 1 6 rfl, e5, dsplit cs 6 1 7 rfl, e6, dsplit cs 7 1 8 rfl, e7, dsplit cs 8 1 9 rfl, e8, dsplit cs 9 1 10 rfl, e9, List.drop_of_length_le (by omega)]
 rfl
end
def tk35 (vs vn : Value) (cs : List Value) (kind turn : Int) : List Value := cs ++ [vn, .int .i64 kind, .int .i64 turn, vs]
section
variable {H : Type} {enc : TypeId × Value → H} {w : World} {cs : List Value}
theorem seen_task35 (h : SeenW enc prog w 109 cs) : ∃ As rc r A c ns kind turn ds cd, cs = tk35 (.slice As (ds : List Int).length cd) (.slice A (ns : List (List (List UInt8))).length c) rc kind turn ∧ RsIs w rc r ∧ NmsR w A ns ∧ ns.length ≤ 17592186044416 ∧ DrwsR w As ds := by
 have c14 : prog.cellsOf 109 = 14 := by kernel_rfl
 have c1 : prog.cellsOf 3 = 1 := by kernel_rfl
 have cr : prog.cellsOf 69 = 10 := by kernel_rfl
 have cn : prog.cellsOf 66 = 1 := by kernel_rfl
 have cd_ : prog.cellsOf 70 = 1 := by kernel_rfl
 obtain ⟨hl, hf⟩ := h.struct underlying109
 rw [c14] at hl
 have h0 : SeenW enc prog w 69 ((cs.drop 0).take (prog.cellsOf 69)) := hf 0 _ rfl
 have h1 : SeenW enc prog w 66 ((cs.drop 10).take (prog.cellsOf 66)) := hf 1 _ rfl
 have h2 : SeenW enc prog w 3 ((cs.drop 11).take (prog.cellsOf 3)) := hf 2 _ rfl
 have h3 : SeenW enc prog w 3 ((cs.drop 12).take (prog.cellsOf 3)) := hf 3 _ rfl
 have h4 : SeenW enc prog w 70 ((cs.drop 13).take (prog.cellsOf 70)) := hf 4 _ rfl
 rw [cr] at h0
 rw [cn] at h1
 rw [c1] at h2 h3
 rw [cd_] at h4
 obtain ⟨r, hr⟩ := seen_rs h0
 obtain ⟨A, c, ns, e1, hN, hnl⟩ := seen_nms h1
 obtain ⟨kind, e2⟩ := seen_int h2
 obtain ⟨turn, e3⟩ := seen_int h3
 obtain ⟨As, cd, ds, e4, hD⟩ := seen_drws h4
 obtain ⟨rc, hrc⟩ : ∃ rc, (cs.drop 0).take 10 = rc := ⟨_, rfl⟩
 rw [hrc] at hr
 refine ⟨As, rc, r, A, c, ns, kind, turn, ds, cd, ?_, hr, hN, hnl, hD⟩
 show cs.drop 0 = _
 rw [dsplit cs 0 10 10 rfl, hrc, dsplit cs 10 1 11 rfl, e1, dsplit cs 11 1 12 rfl, e2, dsplit cs 12 1 13 rfl, e3, dsplit cs 13 1 14 rfl, e4, List.drop_of_length_le (by omega)]
 rfl
end
open Go.RowKit
theorem tk35_at {vs vn : Value} {cs : List Value} {kind turn : Int} (h : cs.length = 10) : (tk35 vs vn cs kind turn).length = 14 ∧ ((tk35 vs vn cs kind turn).drop 0).take 10 = cs ∧ (tk35 vs vn cs kind turn)[10]? = some vn ∧ (tk35 vs vn cs kind turn)[11]? = some (.int .i64 kind) ∧ (tk35 vs vn cs kind turn)[12]? = some (.int .i64 turn) ∧ (tk35 vs vn cs kind turn)[13]? = some vs := by
 unfold tk35
 refine ⟨by simp [h], by rw [List.drop_zero]; exact List.take_left' h, ?_, ?_, ?_, ?_⟩ <;> (rw [List.getElem?_append_right (by omega), h]; rfl)
set_option maxHeartbeats 2000000 in
theorem small35_any (As : Option Addr) (cs : List Value) (r : Rs) (A : Option Addr) (c : Nat) (ns : List (List (List UInt8))) (kind turn : Int) (nd cd : Nat) (w : World) (h : RsIs w cs r) (hN : NmsR w A ns) :
  Calls prog 51 #[.agg (tk35 (.slice As nd cd) (.slice A ns.length c) cs kind turn).toArray] w (fun e w' => ∃ b : Bool, e = .returned (.bool b) ∧ (b = true → ns.length ≤ 10 ∧ (∀ n ∈ ns, lsum n ≤ 400) ∧ nd ≤ 200) ∧ Below w.heap.size w w') := by
 have hcl := h.len
 obtain ⟨hLl, L0, L10, L11, L12, L13⟩ := tk35_at (vs := .slice As nd cd) (vn := .slice A ns.length c) (kind := kind) (turn := turn) hcl
 obtain ⟨L, hL⟩ : ∃ L, tk35 (.slice As nd cd) (.slice A ns.length c) cs kind turn = L := ⟨_, rfl⟩
 rw [hL] at hLl L0 L10 L13 ⊢
 clear hL L11 L12
 have HX : Below w.heap.size w (w.alloc (.cells L.toArray 109)) := (Below.refl _ _).alloc (Nat.le_refl _) _
 have X := Blk.new w 109 L
 have RB := Hh (fun V => cfg_any h V)
 have FW := Hh (fun V (hV : Below w.heap.size w V) => few21_any cs r V (h.below hV))
 have HNS := Hh hN
 have d10 := X.cell_ 10 L10
 have HL := Hh (And.intro L0 L13)
 clear h hN L0 L10 L13
 by_cases h10 : 10 < ns.length
 case pos =>
  have h10' : (10 : Int) < ns.length := by omega
  generalize ns.length = nl at *
  go_enter func51, ntmps51
  go_wp2_with fail
  go_ret
  exact ⟨_, rfl, fun h => by (cases h), HX⟩
 have h10' : ¬ (10 : Int) < ns.length := by omega
 obtain ⟨wX, hwX⟩ : ∃ wX, Hid (w.alloc (.cells L.toArray 109) = wX) := ⟨_, Hh rfl⟩
 have HXX := Hh HX
 have XX := Hh X
 rw [hwX.out] at HXX XX
 go_enter func51, ntmps51
 go_wp2_with fail
 rw [hwX.out] at d10 ⊢
 clear HX X
 go_loopw [3] (fun iv wr => ∃ k : Nat, k ≤ ns.length ∧ iv = .int .i64 k ∧ Hid (∀ i (hi : i < ns.length), i < k → lsum ns[i] ≤ 400) ∧ wr = wX) (fun iv _ => ns.length - (intOf iv).toNat)
 case atStart => exact ⟨0, Nat.zero_le _, rfl, Hh (fun i hi c => absurd c (by omega)), rfl⟩
 obtain ⟨k, hk, rfl, HS, rfl⟩ := hrel
 by_cases hlt : k < ns.length
 case pos =>
  have hlt' : (k : Int) < ns.length := by omega
  obtain ⟨b, off, hA, hb, hr⟩ := HNS.out (by omega)
  obtain ⟨An, cn, ce, hnm⟩ := hr k hlt
  have ce' : wr.cell? ⟨b, off + k, none⟩ = some (.slice An ns[k].length cn) := (HXX.out.cell (p := ⟨b, off + k, none⟩) hb).trans ce
  have FN := Hh (fewN_any An cn ns[k] _ (hnm.below HXX.out))
  subst hA
  clear hr ce hnm
  obtain ⟨bk, hbk⟩ : ∃ bk, Hid (decide (lsum ns[k] ≤ 400) = bk) := ⟨_, Hh rfl⟩
  rw [hbk.out] at FN
  generalize ns[k].length = nk at *
  go_wp2_with fail
  refine FN.out.mono ?_
  rintro _ w1 ⟨rfl, rfl⟩
  clear FN
  cases bk with
  | false =>
   go_wp2_with fail
   go_ret
   exact ⟨_, rfl, fun h => by (cases h), HXX.out⟩
  | true =>
   have HS2 : Hid (∀ i (hi : i < ns.length), i < k + 1 → lsum ns[i] ≤ 400) := Hh (fun i hi c => by
    by_cases e : i = k
    ·
     subst e; exact of_decide_eq_true hbk.out
    ·
     exact HS.out i hi (by omega))
   go_wp2_with fail
   go_roundw
   case rel => exact ⟨k + 1, by omega, by go_num, HS2, trivial⟩
   case measure => simp [intOf]; omega
 case neg =>
  have hlt' : ¬ (k : Int) < ns.length := by omega
  have HQ : Hid (∀ n ∈ ns, lsum n ≤ 400) := Hh (fun n hn => by
   obtain ⟨i, hi, rfl⟩ := List.mem_iff_getElem.1 hn
   exact HS.out i hi (by omega))
  have FW1 := Hh (FW.out _ HXX.out)
  have d13 := XX.out.cell_ 13 HL.out.2
  have X1 := XX.out
  have h10n : ns.length ≤ 10 := by omega
  have H10 := Hh h10n
  clear HS FW h10 h10' h10n
  go_wp2_with (first
   | (refine at_op (.load 69 (.tmp 22)) rfl ?_; go_must (refine wpList_ldB rfl _ _ rfl w.heap.size 0 rfl X1 10 (by omega) _ underlying69 rfl rsI10 cs HL.out.1 ?_))
   | (refine at_op (.build 171 #[(0, .tmp 23)]) rfl ?_; go_must (refine wpList_bld rfl 171 _ rfl #[(0, .agg cs.toArray)] (by simp [Act.eval, Act.put]) (RB.out _) ?_)))
  refine FW1.out.mono ?_
  rintro _ w1 ⟨b, rfl, b1⟩
  have d13' := (b1.cell (p := ⟨w.heap.size, 13, none⟩) X1.lt).trans d13
  have H1 := below_then HXX.out HXX.out.size b1
  clear FW1 d13 X1 d10 b1
  cases b with
  | false =>
   go_wp2_with fail
   go_ret
   exact ⟨_, rfl, fun h => by (cases h), H1⟩
  | true =>
   by_cases hn : nd ≤ 200
   case pos =>
    have hn' : (nd : Int) ≤ 200 := by omega
    have HND := Hh hn
    go_wp2_with fail
    go_ret
    exact ⟨_, rfl, fun _ => ⟨H10.out, HQ.out, HND.out⟩, H1⟩
   case neg =>
    have hn' : ¬ (nd : Int) ≤ 200 := by omega
    go_wp2_with fail
    go_ret
    exact ⟨_, rfl, fun h => absurd (of_decide_eq_true h) (by omega), H1⟩
theorem goS_f : ∀ (f : Nat) (s : Sg) (L : Lt) (o : List Ou), (goS f s L o).1.nms = s.nms ∧ (goS f s L o).1.kind = s.kind ∧ (goS f s L o).1.r = s.r
 | 0, s, L, o => ⟨rfl, rfl, rfl⟩
 | f + 1, s, L, o => by
  have key : ∀ s2 : Sg, (onS f s2 L o).1.nms = s2.nms ∧ (onS f s2 L o).1.kind = s2.kind ∧ (onS f s2 L o).1.r = s2.r := by
   intro s2
   unfold onS
   split
   ·
    exact ⟨rfl, rfl, rfl⟩
   ·
    exact goS_f f _ _ _
  cases hp : s.pres with
  | none => rw [goS_none L o hp]; exact key s
  | some x =>
   obtain ⟨f1, f2, f3, f4, f5, f6⟩ := leaveS_f s x
   cases hd : x.done with
   | false => rw [goS_wait L o hp hd]; exact ⟨rfl, rfl, rfl⟩
   | true =>
    cases he : (leaveS s x).done with
    | true => rw [goS_end L o hp hd he]; exact ⟨f3, f4, f5⟩
    | false =>
     rw [goS_on L o hp hd he]
     obtain ⟨k1, k2, k3⟩ := key (leaveS s x)
     exact ⟨k1.trans f3, k2.trans f4, k3.trans f5⟩
theorem hearS_f (s : Sg) (L : Lt) (e : Ev) : (hearS s L e).1.nms = s.nms ∧ (hearS s L e).1.kind = s.kind ∧ (hearS s L e).1.r = s.r := by
 unfold hearS
 split
 ·
  exact ⟨rfl, rfl, rfl⟩
 ·
  split
  ·
   exact ⟨rfl, rfl, rfl⟩
  ·
   exact goS_f _ _ _ _
theorem SgAt.ok {w0 w : World} {b g gl : Nat} {D : Option Nat} {s : Sg} (h : SgAt w0 w b g gl D s) {x : Xc} (hp : s.pres = some x) : x.ok := by
 obtain ⟨⟨T, vn, vq, vt, vr, vm, pp, a1, a2, a3, a4, a5, a6, a7, a8, a9⟩, _⟩ := h
 rw [hp] at a8
 cases pp with
 | none => exact a8.elim
 | some gx => exact XchgAt.ok a8
theorem own_one {w : World} {B : Nat} {e : TypeId} {k n : Nat} {v : Value} {xs : List Value} (h : w.ownsRow B e k v n xs) : v.oneCell' = true := by
 obtain ⟨A, c, rfl⟩ := own_form h
 rfl
theorem SgAt.result {w0 w : World} {b g gl : Nat} {D : Option Nat} {s : Sg} (h : SgAt w0 w b g gl D s) : ∃ vm, Txts w vm s.nm ∧ vm.oneCell' = true ∧ Calls prog 54 #[.pointer (some ⟨g, 0, none⟩)] w (ResRet s vm w) := by
 obtain ⟨⟨T, vn, vq, vt, vr, vm, pp, a1, a2, a3, a4, a5, a6, a7, a8, a9⟩, h5, h6, h7, h8, h9, h10, h11⟩ := h
 obtain ⟨Ar, cr, hvr⟩ := a6.form
 exact ⟨vm, a7, own_one a7, sresult_any a1 a6 h10 (by rw [hvr]; rfl) (own_one a7)⟩
theorem SgAt.done_ {w0 w : World} {b g gl : Nat} {D : Option Nat} {s : Sg} (h : SgAt w0 w b g gl D s) : Calls prog 55 #[.pointer (some ⟨g, 0, none⟩)] w (Ret (.bool s.done) w) := by
 obtain ⟨⟨T, vn, vq, vt, vr, vm, pp, a1, _⟩, _⟩ := h
 exact sdone_any a1
theorem ssent0_any {w : World} {g : Nat} {T : List Value} {vn vq vt vr vm : Value} {gl : Nat} {s : Sg} (h : SgK w g T vn vq vt vr vm gl none s) : Calls prog 97 #[.pointer (some ⟨g, 0, none⟩)] w (Ret (.int .i64 s.sent) w) := by
 have d6 : w.cell? ⟨g, 15, none⟩ = some (.pointer none) := h.c 5 rfl
 have d11 : w.cell? ⟨g, 22, none⟩ = some (.int .i64 s.sent) := h.c 12 rfl
 clear h
 generalize s.sent = a at *
 go_enter func97, ntmps97
 go_wp2_with fail
 go_ret
 exact Ret.mk rfl rfl
theorem SgAt.sent0 {w0 w : World} {b g gl : Nat} {D : Option Nat} {s : Sg} (h : SgAt w0 w b g gl D s) (hp : s.pres = none) : Calls prog 97 #[.pointer (some ⟨g, 0, none⟩)] w (Ret (.int .i64 s.sent) w) := by
 obtain ⟨⟨T, vn, vq, vt, vr, vm, pp, a1, a2, a3, a4, a5, a6, a7, a8, a9⟩, _⟩ := h
 rw [hp] at a8
 cases pp with
 | some gx => exact a8.elim
 | none => exact ssent0_any a1
def r35 : Rs := ⟨[], [], [], 0, 1, 1, false, false, false, false⟩
def n35 : List (List (List UInt8)) := [[[97]], [[98]]]
def s35 : SR := newSS r35 n35 12 0 ⟨[], 0⟩
def t35 : SR := hearS s35.1 s35.2.1 tick29
def u35 : SR := hearS t35.1 t35.2.1 tick29
theorem s35_len : s35.2.2.length = 1 := by kernel_rfl
theorem t35_len : t35.2.2.length = 1 := by kernel_rfl
theorem u35_all : u35.1.done = true ∧ u35.1.vd = 4 ∧ u35.1.sent = 2 ∧ u35.1.pres = none := ⟨by kernel_rfl, by kernel_rfl, by kernel_rfl, by kernel_rfl⟩
theorem s35_nms : s35.1.nms = n35 ∧ t35.1.nms = n35 := ⟨by kernel_rfl, by kernel_rfl⟩
theorem r35_is (w : World) : RsIs w (rsC nilS nilS nilS r35) r35 := ⟨none, 0, none, 0, none, 0, rfl, fun h => absurd h (by decide), fun h => absurd h (by decide), fun h => absurd h (by decide), by decide, by decide, by decide⟩
theorem n35_is (w : World) (ga gb gn : Nat) (ha : Blk w ga 9 [.string ⟨#[97]⟩]) (hb : Blk w gb 9 [.string ⟨#[98]⟩]) (hn : Blk w gn 26 [.slice (some ⟨ga, 0, none⟩) 1 1, .slice (some ⟨gb, 0, none⟩) 1 1]) : NmsR w (some ⟨gn, 0, none⟩) n35 := by
 have one : ∀ (g : Nat) (c : UInt8), Blk w g 9 [.string ⟨#[c]⟩] → NmR w (some ⟨g, 0, none⟩) 1 [[c]] := by
  intro g c h
  refine ⟨fun _ => ⟨g, 0, rfl, h.lt, fun j hj => ?_⟩, by show (1 : Nat) ≤ 1; decide, by show (1 : Nat) ≤ 17592186044416; decide, by
   intro l hl
   simp at hl
   subst hl; simp⟩
  obtain rfl : j = 0 := by simpa using hj
  exact h.cell_ 0 rfl
 refine fun _ => ⟨gn, 0, rfl, hn.lt, fun i hi => ?_⟩
 have hi' : i < 2 := hi
 obtain rfl | rfl : i = 0 ∨ i = 1 := by omega
 ·
  exact ⟨some ⟨ga, 0, none⟩, 1, hn.cell_ 0 rfl, one ga 97 ha⟩
 ·
  exact ⟨some ⟨gb, 0, none⟩, 1, hn.cell_ 1 rfl, one gb 98 hb⟩
theorem fld_res (n t : Int) (v1 v2 : Value) (W : World) : (Instr.field 115 (.agg #[.int .i64 n, v1, v2, .int .i64 t]) 0).run prog W = .ok (.int .i64 n) W := by kernel_rfl
set_option maxHeartbeats 4000000 in
theorem works35_any (w : World) : Calls prog 50 #[] w (RetB (.bool true) w) := by
 have b0 : Below w.heap.size w (((w.alloc (.cells #[.string ⟨#[97]⟩] 9)).alloc (.cells #[.string ⟨#[98]⟩] 9)).alloc (.cells #[.slice (some ⟨w.heap.size, 0, none⟩) 1 1, .slice (some ⟨w.heap.size + 1, 0, none⟩) 1 1] 26)) := (((Below.refl _ _).alloc (Nat.le_refl _) _).alloc (by simp) _).alloc (by simp; omega) _
 have N0 := ((Blk.new w 9 [.string ⟨#[97]⟩]).alloc (.cells #[.string ⟨#[98]⟩] 9)).alloc (.cells #[.slice (some ⟨w.heap.size, 0, none⟩) 1 1, .slice (some ⟨w.heap.size + 1, 0, none⟩) 1 1] 26)
 have N1 := (Blk.new' (w.alloc (.cells #[.string ⟨#[97]⟩] 9)) 9 [.string ⟨#[98]⟩] (w.heap.size + 1) (by simp)).alloc (.cells #[.slice (some ⟨w.heap.size, 0, none⟩) 1 1, .slice (some ⟨w.heap.size + 1, 0, none⟩) 1 1] 26)
 have N2 := Blk.new' ((w.alloc (.cells #[.string ⟨#[97]⟩] 9)).alloc (.cells #[.string ⟨#[98]⟩] 9)) 26 [.slice (some ⟨w.heap.size, 0, none⟩) 1 1, .slice (some ⟨w.heap.size + 1, 0, none⟩) 1 1] (w.heap.size + 1 + 1) (by simp)
 have HNM := Hh (n35_is _ _ _ _ N0 N1 N2)
 have EB := Hh (fun V => run_be1 V)
 have ez : (evC ⟨1, Adr.zero, 0, 0, []⟩ : List Value) = evC tick29 := rfl
 rw [ez] at EB
 clear N0 N1 N2
 go_enter func50, ntmps50
 go_wp2_with fail
 refine (lnew_any none 0 [] _ (fun h => absurd h (by decide)) (by decide)).mono ?_
 rintro _ w1 ⟨gl, rfl, hL, b1, hgl⟩
 have H1 := below_then b0 b0.size b1
 have hgl' : w.heap.size ≤ gl := Nat.le_trans b0.size hgl
 have hnm : ∀ n ∈ n35, n.length ≤ 100000 := by
  intro n hn
  simp [n35] at hn
  rcases hn with rfl | rfl <;> simp
 have XN := Hh (snew_any w w.heap.size gl (rsC nilS nilS nilS r35) r35 (some ⟨w.heap.size + 1 + 1, 0, none⟩) 2 n35 12 0 ⟨[], 0⟩ w1 (r35_is w) H1 (nms_below HNM.out b1) hL rfl (by show (0 : Nat) ≤ 17592186044416; omega) (by decide) hnm (Nat.le_refl _) H1.size hgl')
 have hs35 : Hid (newSS r35 n35 12 0 ⟨[], 0⟩ = s35) := Hh rfl
 rw [hs35.out] at XN
 unfold SnRet at XN
 clear b0 HNM b1 hL hs35
 go_wp2_with fail
 refine XN.out.mono ?_
 rintro _ w2 ⟨g, v, D, rfl, hO, hA, hl, hF, hI, hp1, hp2⟩
 obtain ⟨A2, c2, hv2, -, -⟩ := hO.form
 rw [s35_len] at hv2
 subst hv2
 have hb2 : w.heap.size ≤ w2.heap.size := Nat.le_trans H1.size hF.size
 have H2 := hF.toBelowT H1 H1.size (Nat.le_refl _)
 have HR := Hh (shear_any w w.heap.size g gl D s35.1 s35.2.1 tick29 0 0 0 w2 hA hl hI hp1 hp2 rfl (by show 0 + 0 ≤ 8796093022208; omega) (by omega) hb2 (by rw [s35_nms.1]; exact hnm))
 have ht35 : Hid (hearS s35.1 s35.2.1 tick29 = t35) := Hh rfl
 rw [ht35.out] at HR
 unfold SgRetI SgRet at HR
 clear hO hA hl hF hI hp1 hp2 XN ht35
 have HNM := Hh hnm
 clear hnm
 obtain ⟨ev, hev⟩ : ∃ ev, Hid (evC tick29 = ev) := ⟨_, Hh rfl⟩
 rw [hev.out] at EB HR
 go_wp2_with (refine at_op (.build 42 #[(0, .const (.int .i64 1))]) rfl ?_; go_must (refine wpList_bld rfl 42 _ rfl #[(0, .int .i64 1)] (by simp [Act.eval, Act.put]) (EB.out _) ?_))
 refine HR.out.mono ?_
 rintro _ w3 ⟨⟨v3, D3, rfl, hO3, hA3, hl3, hF3⟩, hI3, hp3, hq3⟩
 obtain ⟨A3, c3, hv3, -, -⟩ := hO3.form
 rw [t35_len] at hv3
 subst hv3
 have hb3 : w.heap.size ≤ w3.heap.size := Nat.le_trans hb2 hF3.size
 have H3 := hF3.toBelowT H2 H2.size (Nat.le_refl _)
 have HR3 : Hid (Calls prog 53 #[.pointer (some ⟨g, 0, none⟩), .agg ev.toArray] w3 (fun e w' => ∃ v D', e = .returned v ∧ SgAt w w' w.heap.size g gl D' u35.1 ∧ Below w.heap.size w w')) := Hh (by
  rw [← hev.out]
  refine (shear_any w w.heap.size g gl D3 t35.1 t35.2.1 tick29 _ _ _ w3 hA3 hl3 hI3 hp3 hq3 rfl (by show 0 + 0 + 0 ≤ 8796093022208; omega) (by omega) hb3 (by rw [s35_nms.2]; exact HNM.out)).mono ?_
  rintro _ w' ⟨⟨v', D', rfl, _, hA', _, hF'⟩, _⟩
  exact ⟨v', D', rfl, hA', hF'.toBelowT H3 H3.size (Nat.le_refl _)⟩)
 clear hO3 hA3 hl3 hF3 hI3 hp3 hq3 HR H1 H2
 go_wp2_with (refine at_op (.build 42 #[(0, .const (.int .i64 1))]) rfl ?_; go_must (refine wpList_bld rfl 42 _ rfl #[(0, .int .i64 1)] (by simp [Act.eval, Act.put]) (EB.out _) ?_))
 refine HR3.out.mono ?_
 rintro _ w4 ⟨v4, D4, rfl, hA4, H4⟩
 obtain ⟨y1, y2, y3, y4⟩ := u35_all
 have DN := Hh hA4.done_
 rw [y1] at DN
 obtain ⟨vm, -, -, hres⟩ := hA4.result
 have RS := Hh hres
 unfold ResRet at RS
 simp only [y1, y2, if_true] at RS
 have SN := Hh (fun V (hV : Below w4.heap.size w4 V) => (hA4.below H4.size hV).sent0 y4)
 rw [y3] at SN
 have FD := Hh (fun n t v1 v2 V => fld_res n t v1 v2 V)
 clear HR3 H3 hA4 hres y1 y2 y3 y4
 go_wp2_with fail
 refine DN.out.mono ?_
 rintro _ w5 ⟨rfl, rfl⟩
 clear DN
 go_wp2_with fail
 refine RS.out.mono ?_
 rintro _ w6 ⟨vr, rfl, -, b6⟩
 have S6 := Hh (SN.out _ b6)
 have H6 := below_then H4 H4.size b6
 clear RS SN b6
 go_wp2_with (refine at_op (.field 115 (.tmp 35) 0) rfl ?_; go_must (refine wpList_exG (v := .int .i64 4) (by go_simp) (exec_fld 115 (.tmp 35) 0 rfl rfl (FD.out _ _ _ _ _)) ?_))
 refine S6.out.mono ?_
 rintro _ w7 ⟨rfl, rfl⟩
 go_wp2_with fail
 go_ret
 exact RetB.mk rfl H6
def RunS (w0 w : World) (b g gl : Nat) (r : Rs) (ns : List (List (List UInt8))) (kind : Int) (tk k H : Nat) : Prop := ∃ D s M, SgAt w0 w b g gl D s ∧ LotAt w gl M ∧ SgI s M tk k H ∧ (s.pres = none → s.done = true) ∧ (∀ x, s.pres = some x → x.done = false) ∧ s.nms = ns ∧ s.kind = kind ∧ s.r = heldR r
theorem RunS.below {w0 w w' : World} {b g gl : Nat} {r : Rs} {ns : List (List (List UInt8))} {kind : Int} {tk k H : Nat} (h : RunS w0 w b g gl r ns kind tk k H) (hb : b ≤ w.heap.size) (k1 : Below w.heap.size w w') : RunS w0 w' b g gl r ns kind tk k H := by
 obtain ⟨D, s, M, h1, h2, h3⟩ := h
 exact ⟨D, s, M, h1.below hb k1, h2.below k1, h3⟩
def HrRet (w0 : World) (b g gl : Nat) (r : Rs) (ns : List (List (List UInt8))) (kind : Int) (tk k H : Nat) (w : World) (e : Ending) (w' : World) : Prop := ∃ v, e = .returned v ∧ RunS w0 w' b g gl r ns kind tk k H ∧ Below b w w'
theorem RunS.hear {w0 w : World} {b g gl : Nat} {r : Rs} {ns : List (List (List UInt8))} {kind : Int} {tk k H : Nat} (h : RunS w0 w b g gl r ns kind tk k H) (e : Ev) (hip : e.fr.ip.length = 16) (hH : H + e.data.length ≤ 8796093022208) (hk : k ≤ 90000) (hbw : b ≤ w.heap.size) (hnm : ∀ n ∈ ns, n.length ≤ 100000) :
  Calls prog 53 #[.pointer (some ⟨g, 0, none⟩), .agg (evC e).toArray] w (HrRet w0 b g gl r ns kind (tk + if e.kind = 1 then 1 else 0) (k + 1) (H + e.data.length) w) := by
 obtain ⟨D, s, M, h1, h2, h3, h4, h5, h6, h7, h8⟩ := h
 refine (shear_any w0 b g gl D s M e tk k H w h1 h2 h3 h4 h5 hip hH hk hbw (by rw [h6]; exact hnm)).mono ?_
 rintro _ w' ⟨⟨v, D', rfl, _, q2, q3, q4⟩, q5, q6, q7⟩
 obtain ⟨f1, f2, f3⟩ := hearS_f s M e
 exact ⟨v, rfl, ⟨D', _, _, q2, q3, q5, q6, q7, f1.trans h6, f2.trans h7, f3.trans h8⟩, q4.toBelowT (Below.refl b w) hbw (Nat.le_refl _)⟩
def EndR (w' : World) (kind : Int) (vd ttl : Int) (vr vm : Value) (rs : List RR) (nm : List (List UInt8)) : Prop := RRsOwn w' 0 vr rs ∧ Txts w' vm nm ∧ vm.oneCell' = true ∧ 1 ≤ vd ∧ vd ≤ 5 ∧ (rs ≠ [] ↔ vd = 1) ∧ (∀ r ∈ rs, isR nm kind 1 r = true) ∧ rs.length ≤ 65535
theorem RunS.over {w0 w : World} {b g gl : Nat} {r : Rs} {ns : List (List (List UInt8))} {kind : Int} {tk k H : Nat} (h : RunS w0 w b g gl r ns kind tk k H) (ht : ticksR r * ns.length ≤ tk) :
  (Calls prog 54 #[.pointer (some ⟨g, 0, none⟩)] w (fun e w' => ∃ vd ttl vr vm rs nm, e = .returned (.agg [.int .i64 vd, vr, vm, .int .i64 ttl].toArray) ∧ EndR w' kind vd ttl vr vm rs nm ∧ Below w.heap.size w w')) ∧
  ∀ w', Below w.heap.size w w' → b ≤ w.heap.size → Calls prog 55 #[.pointer (some ⟨g, 0, none⟩)] w' (Ret (.bool true) w') := by
 obtain ⟨D, s, M, h1, h2, h3, h4, h5, h6, h7, h8⟩ := h
 have hT : ticksR s.r = ticksR r := by rw [h8]; exact ticks_held r
 have hd : s.done = true := h3.inv.end_ (fun x c => ⟨h1.ok c, h5 x c⟩) (by rw [hT, h6]; exact ht) h4
 obtain ⟨d1, d2, d3, d4⟩ := h3.inv.dn hd
 refine ⟨?_, fun w' k1 hb => ?_⟩
 ·
  obtain ⟨vm, t1, t2, hr⟩ := h1.result
  refine hr.mono ?_
  rintro _ w' ⟨vr, rfl, q1, q2⟩
  simp only [hd, if_true] at q1 ⊢
  refine ⟨s.vd, s.ttl, vr, vm, s.recs, s.nm, rfl, ⟨q1, t1.below q2, t2, d1, d2, d3, fun r hr => ?_, h1.rl⟩, q2⟩
  obtain ⟨l, hl⟩ := d4 r hr
  rw [h7] at hl
  exact (List.mem_filter.1 hl).2
 ·
  rw [← hd]
  exact (h1.below hb k1).done_
theorem EndR.rec {w' : World} {kind vd ttl : Int} {A Am : Option Addr} {c cm : Nat} {rs : List RR} {nm : List (List UInt8)} (h : EndR w' kind vd ttl (.slice A rs.length c) (.slice Am nm.length cm) rs nm) (i : Nat) (hi : i < rs.length) :
  ∃ gr An cn n, A = some ⟨gr, 0, none⟩ ∧ gr < w'.heap.size ∧ w'.cell? ⟨gr, i * 33 + 1, none⟩ = some (.int .i64 kind) ∧ w'.cell? ⟨gr, i * 33 + 2, none⟩ = some (.int .i64 1) ∧ w'.cell? ⟨gr, i * 33, none⟩ = some (.slice An (n : List (List UInt8)).length cn) ∧
   ∀ V, Below w'.heap.size w' V → Calls prog 56 #[.slice An n.length cn, .slice Am nm.length cm] V (RetB (.bool true) V) := by
 obtain ⟨h1, h2, h3, h4, h5, h6, h7, h8⟩ := h
 obtain ⟨gr, e1, e2, e3⟩ := h1.at_ (fun _ _ x => x.len) (by omega)
 obtain ⟨cs, r1, vn, vt, vm, rfl, k2, k3, k4, k5, k6⟩ := e3 i hi
 have hr := h7 _ (List.getElem_mem hi)
 unfold isR at hr
 simp only [Bool.and_eq_true, decide_eq_true_eq] at hr
 obtain ⟨i1, i2, i3⟩ := hr
 obtain ⟨An, cn, rfl, n3⟩ := k3.form
 have hl : rs[i].name.length = nm.length := by rw [← lowN_len, i3, lowN_len]
 have hll : ∀ l ∈ nm, l.length ≤ 140737488355328 := by
  intro l hl'
  have : lowT l ∈ lowN rs[i].name := by rw [i3]; exact List.mem_map.2 ⟨l, hl', rfl⟩
  obtain ⟨l2, m1, m2⟩ := List.mem_map.1 this
  rw [← lowT_len, ← m2, lowT_len]
  exact n3.2.2.2 l2 m1
 have hnl : rs[i].name.length ≤ 255 := by
  obtain ⟨_, h5⟩ := checkN_ok k3.2
  have h6 := lsum_ge rs[i].name
  omega
 have hm : NmL w' (.slice Am nm.length cm) nm := ⟨h2, by omega, hll⟩
 obtain ⟨A2, c2, e, m3⟩ := hm.form
 injection e with ea eb ec
 subst ea ec
 refine ⟨gr, An, cn, rs[i].name, e1, e2, ?_, ?_, ?_, fun V hV => ?_⟩
 ·
  have := r1 1 _ rfl
  rw [Nat.zero_add, i1] at this
  exact this
 ·
  have := r1 2 _ rfl
  rw [Nat.zero_add, i2] at this
  exact this
 ·
  have := r1 0 _ rfl
  rw [Nat.zero_add] at this
  exact this
 ·
  have := refsame_any An Am rs[i].name nm cn cm V (n3.below hV) (m3.below hV) (by omega) (by omega)
  rw [decide_eq_true i3] at this
  exact this
theorem taI14 : (prog.info? 109).map (·.size) = some 14 := by kernel_rfl
set_option maxHeartbeats 8000000 in
theorem singleEnds_any (As : Option Addr) (cs : List Value) (r : Rs) (A : Option Addr) (c : Nat) (ns : List (List (List UInt8))) (kind turn : Int) (ds : List Int) (cd : Nat) (Ae : Option Addr) (ce : Nat) (l : List Ev) (w : World) (h : RsIs w cs r) (hN : NmsR w A ns) (hD : DrwsR w As ds) (hE : EvsR w Ae l) (hEl : l.length ≤ 17592186044416) :
  Calls prog 10 #[.agg (tk35 (.slice As ds.length cd) (.slice A ns.length c) cs kind turn).toArray, .slice Ae l.length ce] w (RetB (.bool true) w) := by
 have hcl := h.len
 obtain ⟨hLl, L0, L10, L11, L12, L13⟩ := tk35_at (vs := .slice As ds.length cd) (vn := .slice A ns.length c) (kind := kind) (turn := turn) hcl
 have SM := Hh (fun V (b : Below w.heap.size w V) => small35_any As cs r A c ns kind turn ds.length cd V (h.below b) (nms_below hN b))
 have FE := Hh (fun w' (b : Below w.heap.size w w') => few28_any Ae ce l 80 w' (hE.below b) hEl)
 have HRS := Lib.hid h
 have HNM := Hh hN
 have HDR := Hh hD
 have HEV := Hh hE
 obtain ⟨L, hL⟩ : ∃ L, Hid (tk35 (.slice As ds.length cd) (.slice A ns.length c) cs kind turn = L) := ⟨_, Hh rfl⟩
 rw [hL.out] at hLl L0 L10 L11 L12 L13 SM ⊢
 have hB : Below w.heap.size w (w.alloc (.cells L.toArray 109)) := (Below.refl _ _).alloc (Nat.le_refl _) _
 have B := Blk.new w 109 L
 clear h hN hD hE hL
 go_enter func10, ntmps10
 go_wp2_with fail
 refine (works35_any _).mono ?_
 rintro _ w1 ⟨rfl, b1⟩
 have B1 := B.below b1 B.lt
 have H1 := below_then hB hB.size b1
 clear B hB b1
 go_wp2_with (refine at_op (.load 109 (.tmp 2)) rfl ?_; go_must (refine wpList_ldG 109 (.tmp 2) rfl (by go_simp) w.heap.size 0 rfl B1 14 (by omega) _ underlying109 rfl taI14 L (tk0 (by omega)) ?_))
 refine (SM.out _ H1).mono ?_
 rintro _ w2 ⟨b, rfl, hsm, b2⟩
 have B2 := B1.below b2 B1.lt
 have H2 := below_then H1 H1.size b2
 have HSM := Hh hsm
 clear B1 H1 b2 SM hsm
 cases b with
 | false =>
  clear FE
  go_wp2_with fail
  refine (works35_any _).mono ?_
  rintro _ w3 ⟨rfl, b3⟩
  go_wp2_with fail
  go_ret
  exact RetB.mk rfl (below_then H2 H2.size b3)
 | true =>
 obtain ⟨hn10, hq4, hdl⟩ := HSM.out rfl
 have hnm : Hid (∀ n ∈ ns, n.length ≤ 100000) := Hh (fun n hn => by have h1 := hq4 n hn; have := lsum_ge n; omega)
 clear HSM hq4
 go_wp2_with fail
 refine (FE.out _ H2).mono ?_
 rintro _ w3 ⟨b, rfl, hfe, b3⟩
 have B3 := B2.below b3 B2.lt
 have H3 := below_then H2 H2.size b3
 have HFE := Hh hfe
 clear B2 H2 b3 FE hfe
 cases b with
 | false =>
  go_wp2_with fail
  refine (works35_any _).mono ?_
  rintro _ w4 ⟨rfl, b4⟩
  go_wp2_with fail
  go_ret
  exact RetB.mk rfl (below_then H3 H3.size b4)
 | true =>
 obtain ⟨hl80, htot⟩ := HFE.out rfl
 clear HFE
 have LN := Hh (fun V (hV : Below w.heap.size w V) => lnew_any As cd ds V (fun hp => by obtain ⟨b, off, h1, h2, h3⟩ := HDR.out hp; exact ⟨b, off, h1, range_below h3 hV h2⟩) (by omega))
 have XN := Hh (fun gl V (hV : Below w3.heap.size w3 V) (hLt : LotAt V gl ⟨ds, 0⟩) (hgl : w3.heap.size ≤ gl) => snew_any w w3.heap.size gl cs r A c ns kind turn ⟨ds, 0⟩ V HRS.out (below_then H3 H3.size hV) (nms_below HNM.out (below_then H3 H3.size hV)) hLt rfl (by show ds.length ≤ 17592186044416; omega) hn10 hnm.out H3.size hV.size hgl)
 have LR : Hid (∀ V, Below w3.heap.size w3 V → (Instr.loadAt 69 (.pointer (some ⟨w.heap.size, 0, none⟩))).run prog V = .ok (.agg cs.toArray) V) := Hh (fun V hV => (B3.below hV B3.lt).loads 69 0 10 (by omega) _ underlying69 rfl rsI10 _ L0)
 have LQ : Hid (∀ V, Below w3.heap.size w3 V → (Instr.loadAt 66 (.pointer (some ⟨w.heap.size, 10, none⟩))).run prog V = .ok (.slice A ns.length c) V) := Hh (fun V hV => run_load1 underlying66 rfl ((B3.below hV B3.lt).cell_ 10 L10))
 have LK : Hid (∀ V, Below w3.heap.size w3 V → (Instr.loadAt 3 (.pointer (some ⟨w.heap.size, 11, none⟩))).run prog V = .ok (.int .i64 kind) V) := Hh (fun V hV => run_load1 underlying3 rfl ((B3.below hV B3.lt).cell_ 11 L11))
 have LT : Hid (∀ V, Below w3.heap.size w3 V → (Instr.loadAt 3 (.pointer (some ⟨w.heap.size, 12, none⟩))).run prog V = .ok (.int .i64 turn) V) := Hh (fun V hV => run_load1 underlying3 rfl ((B3.below hV B3.lt).cell_ 12 L12))
 have LD : Hid (∀ V, Below w3.heap.size w3 V → (Instr.loadAt 70 (.pointer (some ⟨w.heap.size, 13, none⟩))).run prog V = .ok (.slice As ds.length cd) V) := Hh (fun V hV => run_load1 underlying70 rfl ((B3.below hV B3.lt).cell_ 13 L13))
 have HL0 := Hh L0
 have HL10 := Hh L10
 have HL11 := Hh L11
 obtain ⟨X0, hX0⟩ : ∃ X0, Hid (newSS r ns kind turn ⟨ds, 0⟩ = X0) := ⟨_, Hh rfl⟩
 have hXf : Hid (X0.1.nms = ns ∧ X0.1.kind = kind ∧ X0.1.r = heldR r) := Hh (by rw [← hX0.out]; exact goS_f _ _ _ _)
 rw [hX0.out] at XN
 unfold SnRet at XN
 clear L0 L10 L11 L12 L13 hX0
 go_upto_region 3 with fail
 go_cut [5, 6] (fun v5 v6 wx => ∃ g gl A6 n6 c6, v5 = .pointer (some ⟨g, 0, none⟩) ∧ v6 = .slice A6 n6 c6 ∧ RunS w wx w3.heap.size g gl r ns kind 0 0 0 ∧ Below w3.heap.size w3 wx)
 case first =>
  refine wp_region_held_drew (S := fun V => Below w3.heap.size w3 V) (by kernel_rfl) (Below.refl _ _).drew (fun hS => ?_)
  refine held_seq hS 10 [0,1,2,3,4,5,6,7,8,9] rfl (by kernel_rfl) (fun _ _ _ _ _ h => h) rfl rfl ?_
  (refine ⟨_, (.pointer (some ⟨w.heap.size, 0, none⟩)), rfl, .inl ⟨rfl, fun V hV => rfl⟩, ?_⟩; simp only [Act.put, lsA, lsB, lsC])
  (refine ⟨_, _, rfl, .inl ⟨rfl, fun V hV => (exec_ld 69 (.tmp 26) ⟨w.heap.size, 0, none⟩ rfl rfl (LR.out V hV))⟩, ?_⟩; simp only [Act.put, lsA, lsB, lsC])
  (refine ⟨_, (.pointer (some ⟨w.heap.size, 10, none⟩)), rfl, .inl ⟨rfl, fun V hV => rfl⟩, ?_⟩; simp only [Act.put, lsA, lsB, lsC])
  (refine ⟨_, _, rfl, .inl ⟨rfl, fun V hV => (exec_ld 66 (.tmp 28) ⟨w.heap.size, 10, none⟩ rfl rfl (LQ.out V hV))⟩, ?_⟩; simp only [Act.put, lsA, lsB, lsC])
  (refine ⟨_, (.pointer (some ⟨w.heap.size, 11, none⟩)), rfl, .inl ⟨rfl, fun V hV => rfl⟩, ?_⟩; simp only [Act.put, lsA, lsB, lsC])
  (refine ⟨_, _, rfl, .inl ⟨rfl, fun V hV => (exec_ld 3 (.tmp 30) ⟨w.heap.size, 11, none⟩ rfl rfl (LK.out V hV))⟩, ?_⟩; simp only [Act.put, lsA, lsB, lsC])
  (refine ⟨_, (.pointer (some ⟨w.heap.size, 12, none⟩)), rfl, .inl ⟨rfl, fun V hV => rfl⟩, ?_⟩; simp only [Act.put, lsA, lsB, lsC])
  (refine ⟨_, _, rfl, .inl ⟨rfl, fun V hV => (exec_ld 3 (.tmp 32) ⟨w.heap.size, 12, none⟩ rfl rfl (LT.out V hV))⟩, ?_⟩; simp only [Act.put, lsA, lsB, lsC])
  (refine ⟨_, (.pointer (some ⟨w.heap.size, 13, none⟩)), rfl, .inl ⟨rfl, fun V hV => rfl⟩, ?_⟩; simp only [Act.put, lsA, lsB, lsC])
  (refine ⟨_, _, rfl, .inl ⟨rfl, fun V hV => (exec_ld 70 (.tmp 34) ⟨w.heap.size, 13, none⟩ rfl rfl (LD.out V hV))⟩, ?_⟩; simp only [Act.put, lsA, lsB, lsC])
  simp only [SeqC]
  refine held_call 10 (some 36) 33 #[.slice As ds.length cd] (by kernel_rfl) rfl rfl (by kernel_rfl) (by go_simp) (LN.out _ (below_then H3 H3.size hS)) ?_
  rintro _ w4 ⟨gl, rfl, hLt, b4, hgl⟩
  have hS4 := below_then hS hS.size b4
  refine ⟨_, rfl, hS4, ?_⟩
  have hgl3 : w3.heap.size ≤ gl := Nat.le_trans hS.size hgl
  clear hS b4 hgl
  have hS := hS4
  clear hS4
  simp only [Act.put, lsA, lsB, lsC]
  refine held_call 11 (some 37) 52 #[.agg cs.toArray, .slice A ns.length c, .int .i64 kind, .int .i64 turn, .pointer (some ⟨gl, 0, none⟩)] (by kernel_rfl) rfl rfl (by kernel_rfl) (by go_simp) (XN.out gl _ hS hLt hgl3) ?_
  rintro _ w5 ⟨g, v, D, rfl, hO, hX, hl5, hf, hI, hp1, hp2⟩
  have hS5 : Below w3.heap.size w3 w5 := hf.toBelowT hS hS.size (Nat.le_refl _)
  refine ⟨_, rfl, hS5, ?_⟩
  obtain ⟨A6, c6, hv6, -, -⟩ := hO.form
  obtain ⟨x1, x2, x3⟩ := hXf.out
  have HR := Hh (show RunS w w5 w3.heap.size g gl r ns kind 0 0 0 from ⟨D, X0.1, X0.2.1, hX, hl5, hI, hp1, hp2, x1, x2, x3⟩)
  clear hS hf hO hgl3 hLt hX hl5 hI hp1 hp2 x1 x2 x3
  have hS := hS5
  clear hS5
  subst hv6
  generalize X0.2.2.length = n6 at *
  simp only [Act.put, lsA, lsB, lsC]
  refine held_seq hS 5 [12,13,14,15,16] rfl (by kernel_rfl) (fun _ _ _ _ _ h => h) rfl rfl ?_
  (refine ⟨_, (.tuple #[.pointer (some ⟨g, 0, none⟩), .slice A6 n6 c6]), rfl, .inl ⟨rfl, fun V hV => rfl⟩, ?_⟩; simp only [Act.put, lsA, lsB, lsC])
  (refine ⟨_, (.pointer (some ⟨g, 0, none⟩)), rfl, .inl ⟨rfl, fun V hV => rfl⟩, ?_⟩; simp only [Act.put, lsA, lsB, lsC])
  (refine ⟨_, (.slice A6 n6 c6), rfl, .inl ⟨rfl, fun V hV => rfl⟩, ?_⟩; simp only [Act.put, lsA, lsB, lsC])
  (refine ⟨_, (.pointer (some ⟨g, 0, none⟩)), rfl, .inl ⟨rfl, fun V hV => rfl⟩, ?_⟩; simp only [Act.put, lsA, lsB, lsC])
  (refine ⟨_, (.slice A6 n6 c6), rfl, .inl ⟨rfl, fun V hV => rfl⟩, ?_⟩; simp only [Act.put, lsA, lsB, lsC])
  simp only [SeqC]
  refine wpAnyH_done (by kernel_rfl) ?_ _
  go_wp2_with fail
  go_meet
  case rel => exact ⟨g, gl, A6, n6, c6, rfl, rfl, HR.out, hS⟩
 obtain ⟨g, gl, A6, n6, c6, rfl, rfl, HR, HW⟩ := hcut
 have HR := Hh HR
 clear LR LQ LK LT LD LN XN hXf
 obtain ⟨w5, rfl⟩ : ∃ w5, w5 = wc := ⟨_, rfl⟩
 have hT1 := (ticks_le r).1
 have TK := Hh (fun V (hV : Below w.heap.size w V) => ticks_any w cs r V HRS.out hV)
 obtain ⟨T, hT⟩ : ∃ T, Hid (ticksR r = T) := ⟨_, Hh rfl⟩
 rw [hT.out] at hT1 TK
 obtain ⟨b, hb⟩ : ∃ b, Hid (w3.heap.size = b) := ⟨_, Hh rfl⟩
 have hlb : w.heap.size < b := by rw [← hb.out]; exact B3.lt
 have hwb := Hh (show w.heap.size ≤ b by omega)
 rw [hb.out] at HR HW
 have H3' := Hh H3
 have B3' := Hh B3
 clear H3 B3
 go_wp2_with fail
 go_loopw [7] (fun iv wr => ∃ k tk : Nat, k ≤ l.length ∧ iv = .int .i64 k ∧ Hid (RunS w wr b g gl r ns kind tk k (totE (l.take k))) ∧ Below b w3 wr) (fun iv _ => l.length - (intOf iv).toNat)
 case atStart => exact ⟨0, 0, Nat.zero_le _, rfl, HR, HW⟩
 clear HR HW
 obtain ⟨k, tk, hk, rfl, HR, HW⟩ := hrel
 have HBw : Below w.heap.size w wr := below_then H3'.out H3'.out.size (by rw [hb.out]; exact HW)
 have hbw : b ≤ wr.heap.size := by have := HW.size; rw [hb.out] at this; exact this
 by_cases hlt : k < l.length
 case pos =>
  have hlt' : (k : Int) < l.length := by omega
  obtain ⟨ba, oa, hA1, la1, ra, hip, hdl'⟩ := HEV.out.at_ k hlt
  have hT := totE_take l k hlt
  have hT2 := totE_le l (k + 1)
  have hel : (evC l[k]).length = 22 := evC_len hip
  have re := range_below ra HBw la1
  have HC := Hh (HR.out.hear l[k] hip (by omega) (by omega) hbw hnm.out)
  rw [← hT] at HC
  subst hA1
  unfold HrRet at HC
  clear hT hT2 ra hdl' HR
  generalize (tk + if l[k].kind = 1 then 1 else 0) = tk2 at *
  generalize evC l[k] = ek at *
  go_wp2_with (refine at_op (.load 42 (.tmp 51)) rfl ?_; go_must (refine wpList_ldR rfl 42 (.tmp 51) rfl ba (oa + k * 22) rfl ek re _ underlying42 rfl (by rw [hel]; exact evI22) ?_))
  refine HC.out.mono ?_
  rintro _ w6 ⟨v6, rfl, hR6, b6⟩
  have HR6 := Hh hR6
  have H6 : Below b w3 w6 := HW.trans b6
  clear HC hR6 b6 HW HBw re
  go_wp2_with fail
  go_roundw
  case rel => exact ⟨k + 1, tk2, by omega, by go_num, HR6, H6⟩
  case measure => simp [intOf]; omega
 have hlt' : ¬ (k : Int) < l.length := by omega
 obtain rfl : k = l.length := by omega
 rw [List.take_length] at HR
 have K11 : Hid (∀ V, Below b w3 V → V.cell? ⟨w.heap.size, 11, none⟩ = some (.int .i64 kind)) := Hh (fun V hV => (B3'.out.below (by rw [hb.out]; exact hV) B3'.out.lt).cell_ 11 HL11.out)
 have hM : ns.length * T ≤ 13500 := by
  have : ns.length * T ≤ 10 * 1350 := Nat.mul_le_mul hn10 hT1
  omega
 have hMi : (ns.length : Int) * T ≤ 13500 := by exact_mod_cast hM
 have hMi0 : 0 ≤ (ns.length : Int) * T := Int.mul_nonneg (by omega) (by omega)
 have hTM : Hid (ticksR r * ns.length = ns.length * T) := Hh (by rw [hT.out, Nat.mul_comm])
 have LQ : Hid (∀ V, Below wr.heap.size wr V → (Instr.loadAt 66 (.pointer (some ⟨w.heap.size, 10, none⟩))).run prog V = .ok (.slice A ns.length c) V) := Hh (fun V hV => by
  have h3 : Below b w3 V := below_then HW hbw hV
  exact run_load1 underlying66 rfl ((B3'.out.below (by rw [hb.out]; exact h3) B3'.out.lt).cell_ 10 HL10.out))
 have LR : Hid (∀ V, Below wr.heap.size wr V → (Instr.loadAt 69 (.pointer (some ⟨w.heap.size, 0, none⟩))).run prog V = .ok (.agg cs.toArray) V) := Hh (fun V hV => by
  have h3 : Below b w3 V := below_then HW hbw hV
  exact (B3'.out.below (by rw [hb.out]; exact h3) B3'.out.lt).loads 69 0 10 (by omega) _ underlying69 rfl rsI10 _ HL0.out)
 have TK1 := Hh (fun V (hV : Below wr.heap.size wr V) => TK.out V (below_then HBw HBw.size hV))
 have HW0 := Hh HW
 obtain ⟨nl, hnl⟩ : ∃ nl, Hid (ns.length = nl) := ⟨_, Hh rfl⟩
 rw [hnl.out] at hn10 hM hMi hMi0 hTM LQ
 clear TK HEV HW
 go_wp2_with fail
 refine wp_region_old (by kernel_rfl) (by kernel_rfl) ?_
 (refine wpQuiet_val (v := (.pointer (some ⟨w.heap.size, 10, none⟩))) rfl (fun W hW => by first | (go_simp; done) | (go_simp; omega)) ?_; simp only [Act.put, lsA, lsB, lsC])
 refine wpQuiet_ld (v := .slice A nl c) 66 (.tmp 54) rfl ⟨w.heap.size, 10, none⟩ rfl rfl (fun V hV => LQ.out V hV) ?_
 simp only [Act.put, lsA, lsB, lsC]
 (refine wpQuiet_val (v := (.int .i64 nl)) rfl (fun W hW => by first | (go_simp; done) | (go_simp; omega)) ?_; simp only [Act.put, lsA, lsB, lsC])
 (refine wpQuiet_val (v := (.pointer (some ⟨w.heap.size, 0, none⟩))) rfl (fun W hW => by first | (go_simp; done) | (go_simp; omega)) ?_; simp only [Act.put, lsA, lsB, lsC])
 refine wpQuiet_ld (v := .agg cs.toArray) 69 (.tmp 57) rfl ⟨w.heap.size, 0, none⟩ rfl rfl (fun V hV => LR.out V hV) ?_
 simp only [Act.put, lsA, lsB, lsC]
 refine wpQuiet_call (v := .int .i64 T) 48 #[.agg cs.toArray] rfl (fun W => by go_simp) (fun W hW => RetB.old hW (TK1.out W hW)) ?_
 simp only [Act.put, lsA, lsB, lsC]
 refine wpQuiet_val (v := .int .i64 ((nl * T : Nat) : Int)) rfl (fun W hW => by go_simp; exact IntWalk.i64_in _ (by omega)) ?_
 simp only [Act.put, lsA, lsB, lsC]
 (refine wpQuiet_val (v := (.int .i64 ((nl * T : Nat) : Int))) rfl (fun W hW => by first | (go_simp; done) | (go_simp; omega)) ?_; simp only [Act.put, lsA, lsB, lsC])
 refine wpQuiet_nil ?_
 intro w7 b7
 have HR7 := Hh (HR.out.below hbw b7)
 have HW7 : Below b w3 w7 := below_then HW0.out hbw b7
 have EB := Hh (fun V => run_be1 V)
 have ez : (evC ⟨1, Adr.zero, 0, 0, []⟩ : List Value) = evC tick29 := rfl
 rw [ez] at EB
 clear HR LQ LR TK1 HW0 b7 HBw hbw
 have hMM : Hid (nl * T ≤ 13500) := Hh hM
 generalize nl * T = M at *
 go_wp2_with fail
 go_loopw [9] (fun iv wx => ∃ j tk : Nat, j ≤ M ∧ j ≤ tk ∧ iv = .int .i64 j ∧ Hid (RunS w wx b g gl r ns kind tk (l.length + j) (totE l)) ∧ Below b w3 wx) (fun iv _ => M - (intOf iv).toNat)
 case atStart => exact ⟨0, tk, Nat.zero_le _, Nat.zero_le _, rfl, HR7, HW7⟩
 clear HR7 HW7 hlt hlt'
 obtain ⟨j, tk, hj, htk, rfl, HR, HW⟩ := hrel
 have hbw : b ≤ wr.heap.size := by have := HW.size; rw [hb.out] at this; exact this
 by_cases hlt : j < M
 case pos =>
  have hlt' : (j : Int) < M := by omega
  have HC := Hh (HR.out.hear tick29 rfl (by show totE l + 0 ≤ 8796093022208; omega) (by omega) hbw hnm.out)
  rw [show (tk + if tick29.kind = 1 then 1 else 0) = tk + 1 from rfl, show totE l + tick29.data.length = totE l from rfl] at HC
  unfold HrRet at HC
  clear HR
  generalize evC tick29 = ek at *
  go_wp2_with (refine at_op (.build 42 #[(0, .const (.int .i64 1))]) rfl ?_; go_must (refine wpList_bld rfl 42 _ rfl #[(0, .int .i64 1)] (by simp [Act.eval, Act.put]) (EB.out _) ?_))
  refine HC.out.mono ?_
  rintro _ w6 ⟨v6, rfl, hR6, b6⟩
  have HR6 := Hh hR6
  have H6 : Below b w3 w6 := HW.trans b6
  clear HC hR6 b6 HW
  go_wp2_with fail
  go_roundw
  case rel => exact ⟨j + 1, tk + 1, by omega, by omega, by go_num, HR6, H6⟩
  case measure => simp [intOf]; omega
 have hlt' : ¬ (j : Int) < M := by omega
 obtain ⟨RES, DON⟩ := HR.out.over (by rw [hnl.out, hTM.out]; omega)
 have RES := Hh RES
 have DON := Hh (fun V hV => DON V hV hbw)
 have HWx := Hh HW
 clear HR EB HW hM hMM hMi hMi0 hTM hj htk hlt hdl htot hl80 hT1 hn10
 go_wp2_with fail
 refine RES.out.mono ?_
 rintro _ w8 ⟨vd, ttl, vr, vm, rs, nm, rfl, hE, b8⟩
 obtain ⟨Ar, cr, hvr⟩ := LOwn.form hE.1
 obtain ⟨Am, cm, hvm, -, -⟩ := Txts.form hE.2.1
 subst hvr hvm
 have k9 : Below wr.heap.size wr (w8.alloc (.cells resZ.toArray 115)) := b8.alloc b8.size _
 have B9 := Blk.new w8 115 resZ
 have bE : Below w8.heap.size w8 (w8.alloc (.cells resZ.toArray 115)) := (Below.refl _ _).alloc (Nat.le_refl _) _
 have REC := Hh (fun i hi => hE.rec i hi)
 obtain ⟨-, -, -, v1, v5, hvd, -, hnr⟩ := hE
 have hrl : (0 < rs.length) ↔ vd = 1 := by rw [← hvd, List.length_pos_iff]
 clear RES hvd
 generalize hrn : rs.length = nr at *
 generalize hnn : nm.length = nn at *
 have hone : ∀ v ∈ [Value.int .i64 vd, .slice Ar nr cr, .slice Am nn cm, .int .i64 ttl], v.oneCell' = true := by simp [Value.oneCell']
 go_wp2_with (refine at_op (.store 115 (.tmp 10) (.tmp 70)) rfl ?_; go_must (refine wpList_stB rfl _ _ _ rfl w8.heap.size 0 rfl [.int .i64 vd, .slice Ar nr cr, .slice Am nn cm, .int .i64 ttl] rfl B9 (Nat.le_refl 4) resI4 hone ?_))
 intro w9 B9' g9 s9
 have BR : Blk w9 w8.heap.size 115 [.int .i64 vd, .slice Ar nr cr, .slice Am nn cm, .int .i64 ttl] := by simpa [resZ] using B9'
 have k10 : Below w8.heap.size w8 w9 := below_grown bE g9 bE.size (Nat.le_refl _)
 have k11 := below_then b8 b8.size k10
 have HW9 : Below b w3 w9 := below_then HWx.out hbw k11
 have D9 := Hh (DON.out w9 k11)
 have hgw := BR.lt
 have hww := k10.size
 obtain ⟨gR, hgR⟩ : ∃ gR, Hid (w8.heap.size = gR) := ⟨_, Hh rfl⟩
 rw [hgR.out] at BR hgw hww ⊢
 have c0 := BR.cell_ 0 (u := .int .i64 vd) rfl
 have c1 := BR.cell_ 1 (u := .slice Ar nr cr) rfl
 have K10 := Hh k10
 clear DON HWx B9 B9' g9 s9 bE k9 k10 k11 b8 hbw hone
 go_upto_region 16 with fail
 go_cut [93] (fun v wx => v = .bool false ∧ wx = w9)
 case first =>
  go_wp2_with fail
  refine D9.out.mono ?_
  rintro _ w10 ⟨rfl, rfl⟩
  clear D9
  by_cases hv : vd = 1
  case pos =>
   have h0 : 0 < nr := hrl.2 hv
   have h0' : (0 : Int) < nr := by omega
   subst hv
   clear hrl
   go_wp2_with fail
   go_meet
   case rel => exact ⟨rfl, rfl⟩
  case neg =>
   have h0 : ¬ 0 < nr := fun c => hv (hrl.1 c)
   have h0' : nr = 0 := by omega
   subst h0'
   have v1' : ¬ vd < 1 := by omega
   have v5' : ¬ (5 : Int) < vd := by omega
   have hv' : (vd == 1) = false := by simpa using hv
   clear hrl
   go_wp2_with fail
   go_meet
   case rel => exact ⟨by rw [decide_eq_false (p := vd < 1) (by omega), decide_eq_false (p := 5 < vd) (by omega)]; rfl, rfl⟩
 obtain ⟨rfl, hwc⟩ := hcut
 rw [hwc]
 clear hwc D9 hrl v1 v5 c0 c1
 go_wp2_with fail
 go_loopw [11] (fun iv wx => ∃ i : Nat, i ≤ nr ∧ iv = .int .i64 i ∧ Below w8.heap.size w8 wx ∧ Below b w3 wx ∧ Blk wx gR 115 [.int .i64 vd, .slice Ar nr cr, .slice Am nn cm, .int .i64 ttl]) (fun iv _ => nr - (intOf iv).toNat)
 case atStart => exact ⟨0, Nat.zero_le _, rfl, K10.out, HW9, BR⟩
 clear HW9 BR K10 hgw hww
 obtain ⟨i, hi, rfl, k10, HW, BR⟩ := hrel
 have c1 := BR.cell_ 1 (u := .slice Ar nr cr) rfl
 by_cases hlt : i < nr
 case neg =>
  have hlt' : ¬ (i : Int) < nr := by omega
  go_wp2_with fail
  go_ret
  exact RetB.mk rfl (below_then H3'.out H3'.out.size (by rw [hb.out]; exact HW))
 have hlt' : (i : Int) < nr := by omega
 obtain ⟨gr, An, cn, n, e1, e2, e3, e4, e5, e6⟩ := REC.out i hlt
 subst e1
 have hl8 : gr < wr.heap.size := Nat.lt_of_lt_of_le e2 k10.size
 have LV : Hid (∀ V, Below wr.heap.size wr V → (Instr.loadAt 48 (.pointer (some ⟨gR, 1, none⟩))).run prog V = .ok (.slice (some ⟨gr, 0, none⟩) nr cr) V) := Hh (fun V hV => run_load1 underlying48 rfl ((BR.below hV BR.lt).cell_ 1 rfl))
 have LN : Hid (∀ V, Below wr.heap.size wr V → (Instr.loadAt 26 (.pointer (some ⟨gR, 2, none⟩))).run prog V = .ok (.slice Am nn cm) V) := Hh (fun V hV => run_load1 underlying26 rfl ((BR.below hV BR.lt).cell_ 2 rfl))
 have L1 : Hid (∀ V, Below wr.heap.size wr V → (Instr.loadAt 3 (.pointer (some ⟨gr, 0 + i * 33 + 1, none⟩))).run prog V = .ok (.int .i64 kind) V) := Hh (fun V hV => run_load1 underlying3 rfl (by rw [hV.cell hl8, k10.cell e2, Nat.zero_add]; exact e3))
 have L2 : Hid (∀ V, Below wr.heap.size wr V → (Instr.loadAt 3 (.pointer (some ⟨gr, 0 + i * 33 + 2, none⟩))).run prog V = .ok (.int .i64 1) V) := Hh (fun V hV => run_load1 underlying3 rfl (by rw [hV.cell hl8, k10.cell e2, Nat.zero_add]; exact e4))
 have L3 : Hid (∀ V, Below wr.heap.size wr V → (Instr.loadAt 26 (.pointer (some ⟨gr, 0 + i * 33, none⟩))).run prog V = .ok (.slice An n.length cn) V) := Hh (fun V hV => run_load1 underlying26 rfl (by rw [hV.cell hl8, k10.cell e2, Nat.zero_add]; exact e5))
 have hbw : b ≤ wr.heap.size := by have := HW.size; rw [hb.out] at this; exact this
 have LK : Hid (∀ V, Below wr.heap.size wr V → (Instr.loadAt 3 (.pointer (some ⟨w.heap.size, 11, none⟩))).run prog V = .ok (.int .i64 kind) V) := Hh (fun V hV => run_load1 underlying3 rfl (K11.out V (below_then HW hbw hV)))
 have SS := Hh (fun V (hV : Below wr.heap.size wr V) => e6 V (below_then k10 k10.size hV))
 have HKK := Hh (And.intro k10 (And.intro HW BR))
 generalize n.length = ln at *
 clear e2 e3 e4 e5 e6 k10 HW BR
 go_wp2_with fail
 refine wp_region_old (by kernel_rfl) (by kernel_rfl) ?_
 (refine wpQuiet_val (v := (.pointer (some ⟨gR, 1, none⟩))) rfl (fun W hW => by first | (go_simp; done) | (go_simp; omega)) ?_; simp only [Act.put, lsA, lsB, lsC])
 refine wpQuiet_ld (v := .slice (some ⟨gr, 0, none⟩) nr cr) 48 (.tmp 101) rfl ⟨gR, 1, none⟩ rfl rfl (fun V hV => LV.out V hV) ?_
 simp only [Act.put, lsA, lsB, lsC]
 (refine wpQuiet_val (v := (.int .i64 i)) rfl (fun W hW => by first | (go_simp; done) | (go_simp; omega)) ?_; simp only [Act.put, lsA, lsB, lsC])
 refine wpQuiet_val (v := .pointer (some ⟨gr, 0 + i * 33, none⟩)) rfl (fun W hW => exec_ixK underlying48 rrI33 (by omega) (.tmp 102) (.tmp 103) rfl rfl rfl hlt W) ?_
 simp only [Act.put, lsA, lsB, lsC]
 (refine wpQuiet_val (v := (.pointer (some ⟨gr, 0 + i * 33 + 1, none⟩))) rfl (fun W hW => by first | (go_simp; done) | (go_simp; omega)) ?_; simp only [Act.put, lsA, lsB, lsC])
 refine wpQuiet_ld (v := .int .i64 kind) 3 (.tmp 105) rfl ⟨gr, 0 + i * 33 + 1, none⟩ rfl rfl (fun V hV => L1.out V hV) ?_
 simp only [Act.put, lsA, lsB, lsC]
 (refine wpQuiet_val (v := (.pointer (some ⟨w.heap.size, 11, none⟩))) rfl (fun W hW => by first | (go_simp; done) | (go_simp; omega)) ?_; simp only [Act.put, lsA, lsB, lsC])
 refine wpQuiet_ld (v := .int .i64 kind) 3 (.tmp 107) rfl ⟨w.heap.size, 11, none⟩ rfl rfl (fun V hV => LK.out V hV) ?_
 simp only [Act.put, lsA, lsB, lsC]
 (refine wpQuiet_val (v := (.bool false)) rfl (fun W hW => by first | (go_simp; done) | (go_simp; omega)) ?_; simp only [Act.put, lsA, lsB, lsC])
 (refine wpQuiet_val (v := (.bool false)) rfl (fun W hW => by first | (go_simp; done) | (go_simp; omega)) ?_; simp only [Act.put, lsA, lsB, lsC])
 (refine wpQuiet_val (v := (.pointer (some ⟨gR, 1, none⟩))) rfl (fun W hW => by first | (go_simp; done) | (go_simp; omega)) ?_; simp only [Act.put, lsA, lsB, lsC])
 refine wpQuiet_ld (v := .slice (some ⟨gr, 0, none⟩) nr cr) 48 (.tmp 111) rfl ⟨gR, 1, none⟩ rfl rfl (fun V hV => LV.out V hV) ?_
 simp only [Act.put, lsA, lsB, lsC]
 (refine wpQuiet_val (v := (.int .i64 i)) rfl (fun W hW => by first | (go_simp; done) | (go_simp; omega)) ?_; simp only [Act.put, lsA, lsB, lsC])
 refine wpQuiet_val (v := .pointer (some ⟨gr, 0 + i * 33, none⟩)) rfl (fun W hW => exec_ixK underlying48 rrI33 (by omega) (.tmp 112) (.tmp 113) rfl rfl rfl hlt W) ?_
 simp only [Act.put, lsA, lsB, lsC]
 (refine wpQuiet_val (v := (.pointer (some ⟨gr, 0 + i * 33 + 2, none⟩))) rfl (fun W hW => by first | (go_simp; done) | (go_simp; omega)) ?_; simp only [Act.put, lsA, lsB, lsC])
 refine wpQuiet_ld (v := .int .i64 1) 3 (.tmp 115) rfl ⟨gr, 0 + i * 33 + 2, none⟩ rfl rfl (fun V hV => L2.out V hV) ?_
 simp only [Act.put, lsA, lsB, lsC]
 (refine wpQuiet_val (v := (.bool false)) rfl (fun W hW => by first | (go_simp; done) | (go_simp; omega)) ?_; simp only [Act.put, lsA, lsB, lsC])
 (refine wpQuiet_val (v := (.bool false)) rfl (fun W hW => by first | (go_simp; done) | (go_simp; omega)) ?_; simp only [Act.put, lsA, lsB, lsC])
 (refine wpQuiet_val (v := (.bool false)) rfl (fun W hW => by first | (go_simp; done) | (go_simp; omega)) ?_; simp only [Act.put, lsA, lsB, lsC])
 (refine wpQuiet_val (v := (.pointer (some ⟨gR, 1, none⟩))) rfl (fun W hW => by first | (go_simp; done) | (go_simp; omega)) ?_; simp only [Act.put, lsA, lsB, lsC])
 refine wpQuiet_ld (v := .slice (some ⟨gr, 0, none⟩) nr cr) 48 (.tmp 120) rfl ⟨gR, 1, none⟩ rfl rfl (fun V hV => LV.out V hV) ?_
 simp only [Act.put, lsA, lsB, lsC]
 (refine wpQuiet_val (v := (.int .i64 i)) rfl (fun W hW => by first | (go_simp; done) | (go_simp; omega)) ?_; simp only [Act.put, lsA, lsB, lsC])
 refine wpQuiet_val (v := .pointer (some ⟨gr, 0 + i * 33, none⟩)) rfl (fun W hW => exec_ixK underlying48 rrI33 (by omega) (.tmp 121) (.tmp 122) rfl rfl rfl hlt W) ?_
 simp only [Act.put, lsA, lsB, lsC]
 (refine wpQuiet_val (v := (.pointer (some ⟨gr, 0 + i * 33, none⟩))) rfl (fun W hW => by first | (go_simp; done) | (go_simp; omega)) ?_; simp only [Act.put, lsA, lsB, lsC])
 refine wpQuiet_ld (v := .slice An ln cn) 26 (.tmp 124) rfl ⟨gr, 0 + i * 33, none⟩ rfl rfl (fun V hV => L3.out V hV) ?_
 simp only [Act.put, lsA, lsB, lsC]
 (refine wpQuiet_val (v := (.pointer (some ⟨gR, 2, none⟩))) rfl (fun W hW => by first | (go_simp; done) | (go_simp; omega)) ?_; simp only [Act.put, lsA, lsB, lsC])
 refine wpQuiet_ld (v := .slice Am nn cm) 26 (.tmp 126) rfl ⟨gR, 2, none⟩ rfl rfl (fun V hV => LN.out V hV) ?_
 simp only [Act.put, lsA, lsB, lsC]
 refine wpQuiet_call (v := .bool true) 56 #[.slice An ln cn, .slice Am nn cm] rfl (fun W => by go_simp) (fun W hW => RetB.old hW (SS.out W hW)) ?_
 simp only [Act.put, lsA, lsB, lsC]
 (refine wpQuiet_val (v := (.bool false)) rfl (fun W hW => by first | (go_simp; done) | (go_simp; omega)) ?_; simp only [Act.put, lsA, lsB, lsC])
 (refine wpQuiet_val (v := (.bool false)) rfl (fun W hW => by first | (go_simp; done) | (go_simp; omega)) ?_; simp only [Act.put, lsA, lsB, lsC])
 refine wpQuiet_nil ?_
 intro w11 b11
 obtain ⟨k10, HW, BR⟩ := HKK.out
 have r1 := below_then k10 k10.size b11
 have r2 := below_then HW hbw b11
 have r3 := BR.below b11 BR.lt
 clear k10 HW BR LV LN L1 L2 L3 LK SS HKK b11 c1
 go_wp2_with fail
 go_roundw
 case rel => exact ⟨i + 1, by omega, by go_num, r1, r2, r3⟩
 case measure => simp [intOf]; omega
end Go.Proofs.YthnbcmlnpdabhaaGreat
