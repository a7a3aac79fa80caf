/-
  PackedBack: the walk through the putting.
-/
import Derived.Test.YtlmgdogblbigpaaLaw12c
import Derived.Test.YtlmgdogblbigpaaPkBack
namespace Go.Proofs.Ytlmgdogblbigpaa
open Go.RowKit Go.Maps
set_option maxRecDepth 100000
set_option linter.unusedVariables false

/-- append of one element, and where the row lies then. -/
theorem wpList_appBA {P : Program} (w : World) {ops : Array Oper} {rest : List Oper} {o : Oper} {a : Act} {Q : Exit → Act → World → Prop} (hgd : o.guard = none) (s x : Operand) (t : TypeId)
    (ho : o.op = .call { callee := .builtin .append, args := #[s, x], argTypes := #[t, t] })
    (e : TypeId) (z : Value) (bytes : Nat) (ht : P.underlying t = some (.slice e)) (hi : (P.info? e).map (fun i => (i.zero, i.size, i.bytes)) = some (some z, 1, bytes)) (hzs : z.cells.size = 1)
    (B : Nat) (v : Value) (n : Nat) (xs : List Value) (hs : a.eval s = v) (hown : w.ownsRow B e 1 v n xs) (hB : B ≤ w.heap.size)
    (ad : Addr) (c : Nat) (u : Value) (hx : a.eval x = .slice (some ad) 1 c) (hnews : ∀ j y, [u][j]? = some y → w.cell? (ad.add j) = some y) (h1 : u.oneCell' = true)
    (h63 : n + 1 ≤ maxLen) (hbytes : (n + 1) * bytes ≤ 140737488355328)
    (h : ∀ g cap w', w'.ownsRow B e 1 (.slice (some ⟨g, 0, none⟩) (n + 1) cap) (n + 1) (xs ++ [u]) → w.grownBy w' v.ownBlock → (v.ownBlock = some g ∨ g = w.heap.size) → g < w'.heap.size → wpList P ops Q rest (a.put o.dst (.slice (some ⟨g, 0, none⟩) (n + 1) cap)) w') :
    wpList P ops Q (o :: rest) a w := by
  obtain ⟨i, hi, hz, hsize, hby⟩ := info_parts hi
  refine wpList_append_own_at w hgd s x t ho B e i z 1 bytes ht hi hz hsize hby hzs (by decide) v n xs hs hown ad 1 c [u] hx rfl hnews (by simpa using h1) h63 hbytes hB ?_
  intro v' w' hown' hg _ hat
  obtain ⟨g, cap, rfl⟩ : ∃ g cap, v' = .slice (some ⟨g, 0, none⟩) (n + 1) cap := by
    rcases hown'.2 with ⟨_, h0⟩ | ⟨g, cap, _, hv, _⟩
    · omega
    · exact ⟨g, cap, hv⟩
  refine h g cap w' hown' hg ?_ (hown'.lt g rfl).2
  rcases hat with h | h
  · exact .inl h.symm
  · exact .inr (by simpa [Value.ownBlock] using h)
/-- Two rows are not one. -/
def Dis (a b : Value) : Prop := ∀ k, a.ownBlock = some k → b.ownBlock ≠ some k
theorem Dis.symm {a b : Value} (h : Dis a b) : Dis b a := fun k hb ha => h k ha hb
theorem own_dis {w w' : World} {B : Nat} {e : TypeId} {s n : Nat} {v v' : Value} {xs : List Value} (h : w.ownsRow B e s v n xs) (hd : Dis v v') (hg : w.grownBy w' v'.ownBlock) : w'.ownsRow B e s v n xs := by
  refine h.kept hg ?_
  cases hv : v.ownBlock with
  | none => exact .inl rfl
  | some k => right; intro e; exact hd k hv e.symm
theorem dis_grown {w : World} {B : Nat} {e : TypeId} {s n g m cap : Nat} {v v' : Value} {xs : List Value} (h : w.ownsRow B e s v n xs) (hd : Dis v v') (hat : v'.ownBlock = some g ∨ g = w.heap.size + 1) : Dis v (.slice (some ⟨g, 0, none⟩) m cap) := by
  intro k hk e
  have hgk : g = k := by simpa [Value.ownBlock] using e
  subst hgk
  rcases hat with h' | h'
  · exact hd g hk h'
  · have := (h.lt g hk).2
    omega
theorem own_map {w w' : World} {B b m : Nat} {f : List UInt8 → Option Nat} {e : TypeId} {s n : Nat} {v : Value} {xs : List Value} (h : w.ownsRow B e s v n xs) (hm : MapOf w b m f) (hg : w.grownBy w' (some b)) : w'.ownsRow B e s v n xs := by
  refine h.kept hg ?_
  cases hv : v.ownBlock with
  | none => exact .inl rfl
  | some k => right; intro e; have := hm.ne_own h; rw [hv] at this; exact this e.symm
theorem tab_own {w w' : World} {g b B : Nat} {T : List (List (List UInt8) × Nat)} {e : TypeId} {s n : Nat} {v : Value} {xs : List Value} (hT : TabAt w g b T) (h : w.ownsRow B e s v n xs) (hne : 108 ≠ e) (hg : w.grownBy w' v.ownBlock) : TabAt w' g b T := by
  obtain ⟨h1, ⟨f, h2, h3⟩, h4⟩ := hT
  exact ⟨blk_own h1 h hne hg, ⟨f, h2.kept hg (h2.ne_own h), h3⟩, h4⟩
theorem nmInfo : (Try.prog.info? 24).map (fun i => (i.zero, i.size, i.bytes)) = some (some (.slice none 0 0), 1, 24) := by kernel_rfl
/-- Values of names. -/
def NmVs (w : World) (vs : List Value) (all : List (List (List UInt8))) : Prop := vs.length = all.length ∧ ∀ i (h1 : i < vs.length) (h2 : i < all.length), ∃ A c, vs[i] = .slice A all[i].length c ∧ NmR w A c all[i]
theorem NmVs.snoc {w : World} {vs : List Value} {all : List (List (List UInt8))} {A : Option Addr} {c : Nat} {n : List (List UInt8)} (h : NmVs w vs all) (hn : NmR w A c n) : NmVs w (vs ++ [.slice A n.length c]) (all ++ [n]) := by
  refine ⟨by simp [h.1], fun i h1 h2 => ?_⟩
  by_cases hi : i < all.length
  · have hv : i < vs.length := by have := h.1; omega
    obtain ⟨A', c', e, hR⟩ := h.2 i hv hi
    have e1 : (vs ++ [Value.slice A n.length c])[i] = vs[i] := by rw [List.getElem_append_left]
    have e2 : (all ++ [n])[i] = all[i] := by rw [List.getElem_append_left]
    rw [e1, e2]; exact ⟨A', c', e, hR⟩
  · have hi' : i = all.length := by simp at h2; omega
    subst hi'
    have e1 : (vs ++ [Value.slice A n.length c])[all.length] = .slice A n.length c := by simp [← h.1]
    have e2 : (all ++ [n])[all.length] = n := by simp
    rw [e1, e2]; exact ⟨A, c, rfl, hn⟩
theorem own_cells1 {W : World} {B n c : Nat} {e : TypeId} {A : Option Addr} {xs : List Value} (h : W.ownsRow B e 1 (.slice A n c) n xs) (hp : 0 < n) : ∃ G, A = some ⟨G, 0, none⟩ ∧ G < W.heap.size ∧ ∀ i, i < n → W.cell? ⟨G, i, none⟩ = xs[i]? := by
  rcases h.2 with ⟨_, h0⟩ | ⟨G, cap, cur, hv, _⟩
  · omega
  · injection hv with h1
    subst h1
    exact ⟨G, rfl, (h.lt G rfl).2, fun i hi => h.cellAt i (by omega)⟩
theorem ints_get (l : List Nat) (i : Nat) (h : i < l.length) : (ints l)[i]? = some (.int .i64 (l[i] : Int)) := by simp [ints, h]
theorem ends_mid (l : List Nat) (z i : Nat) (h : i + 1 < l.length) : (l ++ [z]).getD (i + 1) 0 = l[i + 1] := by simp [List.getD, List.getElem?_append_left h, h]
theorem ends_last (l : List Nat) (z i : Nat) (h : i + 1 = l.length) : (l ++ [z]).getD (i + 1) 0 = z := by simp [List.getD, h]
/-- What holds behind k names. -/
def PBInv (w : World) (g b : Nat) (s : PB) (x y all ats oth : Value) (wr : World) : Prop :=
  x = .string (bs s.x) ∧ y = .string (bs s.y) ∧ TabAt wr g b s.T ∧ (∃ vs, wr.ownsRow w.heap.size 24 1 all s.all.length vs ∧ NmVs w vs s.all) ∧
    wr.ownsRow w.heap.size 3 1 ats s.ats.length (ints s.ats) ∧ wr.ownsRow w.heap.size 3 1 oth s.oth.length (ints s.oth) ∧ Dis ats oth ∧ Below w.heap.size w wr
def RetTrue (w : World) (e : Ending) (w' : World) : Prop := RetB (.bool true) w e w'

set_option maxHeartbeats 8000000 in
theorem packedBack_in (A : Option Addr) (ca : Nat) (first : List UInt8) (ls : List (List (List UInt8))) (w : World) (hA : NmsR w A ls) (hfew : fewB ls = true) (hf : first.length ≤ 20000) :
    Calls Try.prog 5 #[.string (bs first), .slice A ls.length ca] w (RetTrue w) := by
  have hf' : (first.length : Int) ≤ 20000 := by omega
  have d0 : decide ((20000 : Int) < first.length) = false := decide_eq_false (by omega)
  obtain ⟨hl40, _⟩ := fewB_yes hfew
  have HFEW := Lib.hid hfew
  clear hfew
  go_enter Try.func5, Try.ntmps5
  go_wp2_with fail
  refine (works12 _).mono ?_
  rintro _ w1 ⟨rfl, b1⟩
  go_wp2_with fail
  refine (few12_any A ca ls w1 (hA.below b1)).mono ?_
  rw [HFEW.out]
  rintro _ w2 ⟨rfl, rfl⟩
  go_wp2_with fail
  refine (pnew_any _).mono ?_
  rintro _ w2 ⟨g, b, rfl, hT2, hB2, hg2, hb2⟩
  have b2' := below_then b1 b1.size hB2
  have hbw : w.heap.size ≤ b := Nat.le_trans b1.size hb2
  clear b1 hB2 hg2 hb2
  go_wp2_with fail
  go_loopw [7, 8, 9, 10, 11, 12] (fun x y all ats oth i wr => ∃ k : Nat, k ≤ ls.length ∧ i = .int .i64 k ∧ PBInv w g b (pbK first ls k) x y all ats oth wr) (fun _ _ _ _ _ i _ => ls.length - (intOf i).toNat)
  case atStart =>
    refine ⟨0, Nat.zero_le _, rfl, rfl, rfl, hT2, ⟨[], World.ownsRow_nil _ _ _ _, rfl, fun i h => by simp at h⟩, World.ownsRow_nil _ _ _ _, World.ownsRow_nil _ _ _ _, by simp [Dis, Value.ownBlock], b2'⟩
  case round =>
    clear hT2 b2'
    obtain ⟨k, hk, rfl, rfl, rfl, hT, ⟨vs, hall, hvs⟩, hats, hoth, hdis, hB⟩ := hrel
    have hok := pbK_ok first ls k hk
    by_cases hlt : k < ls.length
    · have hlt' : (k : Int) < ls.length := by omega
      obtain ⟨ba, oa, rfl, hba, xa⟩ := hA (by omega)
      obtain ⟨Ai, ci, c1, hNm⟩ := xa k hlt
      have C1 := Lib.hid c1
      have c2 := (hB.cell hba).trans c1
      have HPK := Lib.hid (pbK_succ first ls k hlt)
      clear xa c1
      generalize hn : ls[k] = n at *
      have HN := Lib.hid hn
      clear hn
      generalize hs : pbK first ls k = s at *
      have HS := Lib.hid hs
      clear hs
      have hNmB := hNm.below hB
      have K := refCheck05_any Ai ci n wr hNmB.1 (by have := hNmB.2.2.1; omega)
      by_cases hc : checkN n = 0
      · have hle := put_le hok n hc
        have hle' : ((putS s.T s.x.length n).length : Int) ≤ (putZ n).length := by omega
        have hst : pbStep s n = ⟨s.x ++ putS s.T s.x.length n, s.y ++ putZ n, putT s.T s.x.length n, s.all ++ [n], s.ats ++ [s.x.length], s.oth ++ [s.y.length]⟩ := by unfold pbStep; rw [if_pos hc]
        have HST := Lib.hid hst
        have hz := (putZ_rd s.y n hc).1
        have hs255 := (checkN_ok hc).2
        have hzl : (putZ n).length ≤ 255 := by omega
        have hlx := hok.lx
        have hly := hok.ly
        have hlt4 := hok.lt
        have hla := hok.la
        have ha1 := hok.rx.1
        have ha2 := hok.ry.1
        rw [hc] at K
        have P1 : ∀ W, TabAt W g b s.T → NmR W Ai ci n → Calls Try.prog 24 #[.pointer (some ⟨g, 0, none⟩), .slice Ai n.length ci, .int .i64 s.x.length] W (PutAny g b s.T n s.x.length W) := fun W h1 h2 => putTab_any g b s.T Ai ci n s.x.length W h1 h2 (by omega)
        have P2 : ∀ W, NmR W Ai ci n → Calls Try.prog 24 #[.pointer none, .slice Ai n.length ci, .int .i64 s.y.length] W (RetB (.tuple #[.string (bs (putZ n)), .int .i64 (checkN n)]) W) := fun W h1 => putNil_any Ai ci n s.y.length W h1
        unfold PutAny at P1
        rw [hc] at P1 P2
        generalize hps : putS s.T s.x.length n = ps at *
        generalize hpz : putZ n = pz at *
        generalize hpt : putT s.T s.x.length n = pt at *
        have HPS := Lib.hid hps
        have HPZ := Lib.hid hpz
        have HPT := Lib.hid hpt
        have HP1 := Lib.hid P1
        have HP2 := Lib.hid P2
        have HOK := Lib.hid hok
        have hats2 : s.ats.length ≤ 40 := by omega
        have hoth2 : s.oth.length ≤ 40 := by omega
        have hall2 : s.all.length ≤ 40 := by omega
        clear hps hpz hpt P1 P2 hc hst hz hs255 hok ha1 ha2
        obtain ⟨x, y, T, all, ats, oth⟩ := s
        simp only at *
        go_wp2_with fail
        refine K.mono ?_
        rintro _ w3 ⟨rfl, rfl⟩
        clear K
        go_wp2_with fail
        refine (HP1.out _ hT hNmB).mono ?_
        rintro _ w3 ⟨rfl, hT3, hg3⟩
        have hB3 : Below w.heap.size w w3 := below_grown hB hg3 hB.size hbw
        obtain ⟨f, hM, _⟩ := hT.2.1
        have hall3 := own_map hall hM hg3
        have hats3 := own_map hats hM hg3
        have hoth3 := own_map hoth hM hg3
        have c3 := (hB3.cell hba).trans C1.out
        clear hT hall hats hoth hM hg3 hB c2 hNmB
        go_wp2_with fail
        refine (HP2.out _ (hNm.below hB3)).mono ?_
        rintro _ w4 ⟨rfl, b4⟩
        have hB4 := below_then hB3 hB3.size b4
        have hT4 := hT3.below b4
        have hall4 := own_below hall3 b4
        have hats4 := own_below hats3 b4
        have hoth4 := own_below hoth3 b4
        have c4 := (hB4.cell hba).trans C1.out
        clear hT3 hall3 hats3 hoth3 hB3 b4 c3
        go_wp2_with (at_builtin; go_must (refine wpList_appBA _ rfl (.tmp 79) (.tmp 84) 32 rfl 24 (.slice none 0 0) 24 Try.underlying32 nmInfo rfl w.heap.size _ all.length _ rfl (World.ownsRow.alloc hall4 _) (by have := hB4.size; simp; omega) ⟨w4.heap.size, 0, none⟩ 1 (.slice Ai n.length ci) rfl (new_one _ _ _ _ rfl) rfl (by simp only [maxLen]; omega) (by omega) ?_))
        intro g5 cap5 w5 hall5 hgr5 hat5 hlt5
        have hB5 := below_own (hB4.alloc hB4.size _) (by have := hB4.size; simp; omega) (hall4.alloc _) hgr5
        have hT5 := tab_own (hT4.alloc _) (hall4.alloc _) (by decide) hgr5
        have hats5 := own_own (hats4.alloc _) (hall4.alloc _) (by decide) hgr5
        have hoth5 := own_own (hoth4.alloc _) (hall4.alloc _) (by decide) hgr5
        clear hT4 hall4 hats4 hoth4 hB4 c4 hgr5 hat5
        obtain ⟨A6, c6, hv6⟩ := own_form hats5
        rw [hv6] at hats5 hdis ⊢
        clear hv6
        obtain ⟨A7, c7, hv7⟩ := own_form hoth5
        rw [hv7] at hoth5 hdis ⊢
        clear hv7
        go_wp2_with (at_builtin; go_must (refine wpList_appBA _ rfl (.tmp 86) (.tmp 89) 33 rfl 3 (.int .i64 0) 8 Try.underlying33 intInfo rfl w.heap.size _ ats.length _ rfl (World.ownsRow.alloc hats5 _) (by have := hB5.size; simp; omega) ⟨w5.heap.size, 0, none⟩ 1 (.int .i64 x.length) rfl (new_one _ _ _ _ rfl) rfl (by simp only [maxLen]; omega) (by omega) ?_))
        intro g6 cap6 w6 hats6 hgr6 hat6 hlt6
        have hB6 := below_own (hB5.alloc hB5.size _) (by have := hB5.size; simp; omega) (hats5.alloc _) hgr6
        have hT6 := tab_own (hT5.alloc _) (hats5.alloc _) (by decide) hgr6
        have hall6 := own_own (hall5.alloc _) (hats5.alloc _) (by decide) hgr6
        have hoth6 := own_dis (hoth5.alloc _) hdis.symm hgr6
        have hdis6 : Dis (.slice A7 oth.length c7) (.slice (some ⟨g6, 0, none⟩) (ats.length + 1) cap6) := dis_grown hoth5 hdis.symm hat6
        clear hT5 hall5 hats5 hoth5 hB5 hgr6 hat6 hdis
        go_wp2_with (at_builtin; go_must (refine wpList_appBA _ rfl (.tmp 91) (.tmp 94) 33 rfl 3 (.int .i64 0) 8 Try.underlying33 intInfo rfl w.heap.size _ oth.length _ rfl (World.ownsRow.alloc hoth6 _) (by have := hB6.size; simp; omega) ⟨w6.heap.size, 0, none⟩ 1 (.int .i64 y.length) rfl (new_one _ _ _ _ rfl) rfl (by simp only [maxLen]; omega) (by omega) ?_))
        intro g7 cap7 w7 hoth7 hgr7 hat7 hlt7
        have hB7 := below_own (hB6.alloc hB6.size _) (by have := hB6.size; simp; omega) (hoth6.alloc _) hgr7
        have hT7 := tab_own (hT6.alloc _) (hoth6.alloc _) (by decide) hgr7
        have hall7 := own_own (hall6.alloc _) (hoth6.alloc _) (by decide) hgr7
        have hats7 := own_dis (hats6.alloc _) hdis6.symm hgr7
        have hdis7 : Dis (.slice (some ⟨g6, 0, none⟩) (ats.length + 1) cap6) (.slice (some ⟨g7, 0, none⟩) (oth.length + 1) cap7) := dis_grown hats6 hdis6.symm hat7
        clear hT6 hall6 hats6 hoth6 hB6 hgr7 hat7 hdis6
        go_wp2_with fail
        go_roundw
        case rel =>
          refine ⟨k + 1, by omega, by go_num, ?_⟩
          rw [HPK.out, HST.out]
          refine ⟨rfl, rfl, hT7, ⟨vs ++ [.slice Ai n.length ci], by simpa using hall7, hvs.snoc hNm⟩, ?_, ?_, hdis7, hB7⟩
          · rw [ints_app]; simpa [ints] using hats7
          · rw [ints_app]; simpa [ints] using hoth7
        case measure => simp [intOf]; omega
      · have hc' : (checkN n != 0) = true := by simpa using hc
        have hst : pbStep s n = s := by unfold pbStep; rw [if_neg hc]
        have HST := Lib.hid hst
        clear hc hst
        generalize checkN n = e at *
        go_wp2_with fail
        refine K.mono ?_
        rintro _ w3 ⟨rfl, rfl⟩
        clear K
        go_wp2_with fail
        go_roundw
        case rel => exact ⟨k + 1, by omega, by go_num, by rw [HPK.out, HST.out]; exact ⟨rfl, rfl, hT, ⟨vs, hall, hvs⟩, hats, hoth, hdis, hB⟩⟩
        case measure => simp [intOf]; omega
    · have hlt' : ¬ (k : Int) < ls.length := by omega
      generalize hs : pbK first ls k = s at *
      have hlx := hok.lx
      have hly := hok.ly
      have hla := hok.la
      have hrx := Lib.hid hok.rx
      have hry := Lib.hid hok.ry
      have ha1 := hok.rx.1
      have ha2 := hok.ry.1
      have hvl := hvs.1
      have HVS := Lib.hid hvs.2
      clear hs hok hvs hT
      obtain ⟨x, y, T, all, ats, oth⟩ := s
      simp only at *
      have hall2 : all.length ≤ 40 := by omega
      obtain ⟨A6, c6, hv6⟩ := own_form hall
      rw [hv6] at hall ⊢
      clear hv6
      obtain ⟨A7, c7, hv7⟩ := own_form hats
      rw [hv7] at hats hdis ⊢
      clear hv7
      obtain ⟨A8, c8, hv8⟩ := own_form hoth
      rw [hv8] at hoth hdis ⊢
      clear hv8
      have HA1 := Lib.hid ha1
      have HA2 := Lib.hid ha2
      have HVL := Lib.hid hvl
      clear ha1 ha2 hvl hdis
      go_wp2_with fail
      obtain ⟨W, hW⟩ : ∃ W, W = wr := ⟨_, rfl⟩
      rw [← hW]
      rw [← hW] at hall hats hoth hB
      clear hW
      go_loopw [17] (fun i wx => ∃ j : Nat, j ≤ all.length ∧ i = .int .i64 j ∧ Below W.heap.size W wx) (fun i _ => all.length - (intOf i).toNat)
      case atStart => exact ⟨0, Nat.zero_le _, rfl, Below.refl _ _⟩
      case round =>
        obtain ⟨j, hj, rfl, hBx⟩ := hrel
        by_cases hjl : j < all.length
        · have hjl' : (j : Int) < all.length := by omega
          have hja : j < ats.length := by rw [HA1.out]; exact hjl
          have hjo : j < oth.length := by rw [HA2.out]; exact hjl
          have hja' : (j : Int) < ats.length := by omega
          have hjo' : (j : Int) < oth.length := by omega
          have hjv : j < vs.length := by rw [HVL.out]; exact hjl
          obtain ⟨Aj, cj, hvj, hNj⟩ := HVS.out j hjv hjl
          obtain ⟨G6, rfl, hG6, x6⟩ := own_cells1 hall (by omega)
          obtain ⟨G7, rfl, hG7, x7⟩ := own_cells1 hats (by omega)
          obtain ⟨G8, rfl, hG8, x8⟩ := own_cells1 hoth (by omega)
          have y6 : W.cell? ⟨G6, j, none⟩ = some (.slice Aj all[j].length cj) := by rw [x6 j hjl, List.getElem?_eq_getElem hjv, hvj]
          have y7 : W.cell? ⟨G7, j, none⟩ = some (.int .i64 ats[j]) := by rw [x7 j hja, ints_get ats j hja]
          have y8 : W.cell? ⟨G8, j, none⟩ = some (.int .i64 oth[j]) := by rw [x8 j hjo, ints_get oth j hjo]
          have z7 : ∀ h : j + 1 < ats.length, W.cell? ⟨G7, j + 1, none⟩ = some (.int .i64 ats[j + 1]) := fun h => by rw [x7 (j + 1) h, ints_get ats (j + 1) h]
          have z8 : ∀ h : j + 1 < oth.length, W.cell? ⟨G8, j + 1, none⟩ = some (.int .i64 oth[j + 1]) := fun h => by rw [x8 (j + 1) h, ints_get oth (j + 1) h]
          have Z7 := Lib.hid z7
          have Z8 := Lib.hid z8
          have Y6 := Lib.hid y6
          have Y8 := Lib.hid y8
          have gx := row_get hrx.out j hjl hja
          have gy := row_get hry.out j hjl hjo
          have G1 := get_any x ats[j] wr (by omega)
          rw [gx] at G1
          have G2 : ∀ W', Calls Try.prog 19 #[.string (bs y), .int .i64 oth[j]] W' (GetRet (.ok all[j] ((oth ++ [y.length]).getD (j + 1) 0)) W') := fun W' => by have := get_any y oth[j] W' (by omega); rwa [gy] at this
          have HG2 := Lib.hid G2
          have hck := (hrx.out.2 j hjl hja).2.2
          have hnl : all[j].length ≤ 254 := by have h1 := (checkN_ok hck).2; have h2 := lsum_ge all[j]; omega
          have y7x := (hBx.cell hG7).trans y7
          clear z7 z8 y6 y7 y8 gx gy G2 hck x6 x7 x8 hvj hats hoth hall
          obtain ⟨e1, he1⟩ : ∃ e1, e1 = (ats ++ [x.length]).getD (j + 1) 0 := ⟨_, rfl⟩
          obtain ⟨e2, he2⟩ : ∃ e2, e2 = (oth ++ [y.length]).getD (j + 1) 0 := ⟨_, rfl⟩
          rw [← he1] at G1
          rw [← he2] at HG2
          have HE1 := Lib.hid he1
          have HE2 := Lib.hid he2
          clear he1 he2
          generalize hnj : all[j] = nj at *
          have HNJ := Lib.hid hnj
          clear hnj
          go_wp2_with fail
          refine G1.mono ?_
          intro e w3 h3
          obtain ⟨A3, c3, rfl, hR3, hB3⟩ := h3.form
          have hB3' := below_then hBx hBx.size hB3
          have y8x := (hB3'.cell hG8).trans Y8.out
          clear h3 G1 hB3 y7x hBx
          simp only [goN, goB, goE] at hR3 ⊢
          go_wp2_with fail
          refine (HG2.out _).mono ?_
          intro e w4 h4
          obtain ⟨A4, c4, rfl, hR4, hB4⟩ := h4.form
          have hB4' := below_then hB3' hB3'.size hB4
          have hR3' := hR3.below hB4
          have y6x := (hB4'.cell hG6).trans Y6.out
          clear h4 HG2 hB4 y8x hB3' hR3
          simp only [goN, goB, goE] at hR4 ⊢
          go_wp2_with fail
          refine (exact_any A3 Aj nj nj _ _ _ hR3' ((hNj.below (below_then hB hB.size hB4')).1) (by omega) (by omega)).mono ?_
          rw [decide_eq_true rfl]
          rintro _ w5 ⟨rfl, b5⟩
          have hB5 := below_then hB4' hB4'.size b5
          have hR4' := hR4.below b5
          have y6y := (hB5.cell hG6).trans Y6.out
          clear b5 hB4' hR3' hR4 y6x
          go_wp2_with fail
          refine (exact_any A4 Aj nj nj _ _ _ hR4' ((hNj.below (below_then hB hB.size hB5)).1) (by omega) (by omega)).mono ?_
          rw [decide_eq_true rfl]
          rintro _ w6 ⟨rfl, b6⟩
          have hB6 := below_then hB5 hB5.size b6
          clear b6 hB5 hR4' y6y
          go_upto_region 28 with fail
          by_cases hlast : j + 1 < all.length
          · have hl1 : (j : Int) + 1 < all.length := by omega
            have hl2 : j + 1 < ats.length := by rw [HA1.out]; exact hlast
            have hl3 : j + 1 < oth.length := by rw [HA2.out]; exact hlast
            have hl2' : (j : Int) + 1 < ats.length := by omega
            have hl3' : (j : Int) + 1 < oth.length := by omega
            have u7 := (hB6.cell hG7).trans (Z7.out hl2)
            have u8 := (hB6.cell hG8).trans (Z8.out hl3)
            have q1 := ends_mid ats x.length j hl2
            have q2 := ends_mid oth y.length j hl3
            rw [← HE1.out] at q1
            rw [← HE2.out] at q2
            rw [← q1] at u7
            rw [← q2] at u8
            have d5 : decide ((j : Int) + 1 < all.length) = true := decide_eq_true hl1
            have ne5 : ((j : Int) + 1 == all.length) = false := by rw [beq_eq_false_iff_ne]; omega
            clear q1 q2
            go_wp2_with fail
            go_roundw
            case rel => exact ⟨j + 1, by omega, by go_num, hB6⟩
            case measure => simp [intOf]; omega
          · have hl1 : ¬ (j : Int) + 1 < all.length := by omega
            have q1 := ends_last ats x.length j (by rw [HA1.out]; omega)
            have q2 := ends_last oth y.length j (by rw [HA2.out]; omega)
            rw [← HE1.out] at q1
            rw [← HE2.out] at q2
            subst q1 q2
            have d5 : decide ((j : Int) + 1 < all.length) = false := decide_eq_false hl1
            have ne5 : ((j : Int) + 1 == all.length) = true := by rw [beq_iff_eq]; omega
            go_wp2_with fail
            go_roundw
            case rel => exact ⟨j + 1, by omega, by go_num, hB6⟩
            case measure => simp [intOf]; omega
        · have hjl' : ¬ (j : Int) < all.length := by omega
          go_wp2_with fail
          go_ret
          exact RetB.mk rfl (below_then hB hB.size hBx)
theorem packedBack_out (A : Option Addr) (ca : Nat) (first : List UInt8) (ls : List (List (List UInt8))) (w : World) (hA : NmsR w A ls) (hf : fewB ls = false ∨ 20000 < first.length) :
    Calls Try.prog 5 #[.string (bs first), .slice A ls.length ca] w (RetTrue w) := by
  cases hfew : fewB ls with
  | false =>
    have HFEW := Lib.hid hfew
    clear hfew hf
    go_enter Try.func5, Try.ntmps5
    go_wp2_with fail
    refine (works12 _).mono ?_
    rintro _ w1 ⟨rfl, b1⟩
    go_wp2_with fail
    refine (few12_any A ca ls w1 (hA.below b1)).mono ?_
    rw [HFEW.out]
    rintro _ w2 ⟨rfl, rfl⟩
    go_wp2_with fail
    refine (works12 _).mono ?_
    rintro _ w2 ⟨rfl, b2⟩
    go_wp2_with fail
    go_ret
    exact RetB.mk rfl (below_then b1 b1.size b2)
  | true =>
    have hl : 20000 < first.length := by
      rcases hf with h | h
      · rw [hfew] at h; cases h
      · exact h
    have hl' : (20000 : Int) < first.length := by omega
    have d0 : decide ((20000 : Int) < first.length) = true := decide_eq_true hl'
    have HFEW := Lib.hid hfew
    clear hfew hf
    go_enter Try.func5, Try.ntmps5
    go_wp2_with fail
    refine (works12 _).mono ?_
    rintro _ w1 ⟨rfl, b1⟩
    go_wp2_with fail
    refine (few12_any A ca ls w1 (hA.below b1)).mono ?_
    rw [HFEW.out]
    rintro _ w2 ⟨rfl, rfl⟩
    go_wp2_with fail
    refine (works12 _).mono ?_
    rintro _ w2 ⟨rfl, b2⟩
    go_wp2_with fail
    go_ret
    exact RetB.mk rfl (below_then b1 b1.size b2)
theorem packedBack_any (A : Option Addr) (ca : Nat) (first : List UInt8) (ls : List (List (List UInt8))) (w : World) (hA : NmsR w A ls) :
    Calls Try.prog 5 #[.string (bs first), .slice A ls.length ca] w (RetB (.bool true) w) := by
  by_cases h : fewB ls = false ∨ 20000 < first.length
  · exact packedBack_out A ca first ls w hA h
  · have h1 : fewB ls = true := by
      cases h' : fewB ls with
      | true => rfl
      | false => exact absurd (.inl h') h
    exact packedBack_in A ca first ls w hA h1 (by omega)
end Go.Proofs.Ytlmgdogblbigpaa
