/-
  Layer 12, the reference: Put.
-/
import Derived.Test.YthnbcmlnpdabhaaGreatGFq
namespace Go.Proofs.YthnbcmlnpdabhaaGreat
open _root_.Go.Proofs.Tryz
open Go.RowKit
set_option maxRecDepth 100000
set_option linter.unusedVariables false
theorem TxtR.drop {w : World} {b off : Nat} {n : List (List UInt8)} (h : ∀ i (hi : i < n.length), w.cell? ⟨b, off + i, none⟩ = some (.string (bs n[i]))) (hb : b < w.heap.size) (k : Nat) : TxtR w (some ⟨b, off + k, none⟩) (n.drop k) := by
 intro _
 refine ⟨b, off + k, rfl, hb, fun i hi => ?_⟩
 have := h (k + i) (by simp at hi; omega)
 rw [Nat.add_assoc, this]
 simp
theorem TxtL.drop {lo : Nat} {w : World} {b off c : Nat} {n : List (List UInt8)} (h : ∀ i (hi : i < n.length), w.cell? ⟨b, off + i, none⟩ = some (.string (bs n[i]))) (hb : b < lo) (k : Nat) : TxtL lo w (.slice (some ⟨b, off + k, none⟩) (n.drop k).length c) (n.drop k) := by
 refine ⟨_, _, rfl, fun _ => ⟨b, off + k, rfl, hb, fun i hi => ?_⟩⟩
 have := h (k + i) (by simp at hi; omega)
 rw [Nat.add_assoc, this]
 simp
theorem look_rowsA {T : List (List (List UInt8) × Nat)} {at_ : Int} {n : List (List UInt8)} {k : Nat} (hk : k < n.length) : look (T ++ rowsK at_ 0 n k) (n.drop k) = look T (n.drop k) := by
 rw [look_app_none]
 intro r hr e
 obtain ⟨j, hj, h1, _⟩ := rowsK_mem hr
 have := congrArg List.length (h1.symm.trans e)
 simp at this
 omega
def KeepR (lo : Nat) (w w' : World) : Prop := Below lo w w' ∧ ∀ k t cs, Blk w k t cs → t ≠ 208 → t ≠ 273 → Blk w' k t cs
theorem KeepR.trans {lo : Nat} {w w1 w2 : World} (h : KeepR lo w w1) (h' : KeepR lo w1 w2) : KeepR lo w w2 := ⟨h.1.trans h'.1, fun k t cs hb h1 h2 => h'.2 k t cs (h.2 k t cs hb h1 h2) h1 h2⟩
theorem KeepR.old {lo : Nat} {w w1 : World} (h : Below w.heap.size w w1) (hlo : lo ≤ w.heap.size) : KeepR lo w w1 := ⟨h.mono hlo, fun k t cs hb _ _ => hb.below h hb.lt⟩
theorem KeepR.refl (lo : Nat) (w : World) : KeepR lo w w := ⟨Below.refl _ _, fun _ _ _ h _ _ => h⟩
theorem rtab_row {lo g gg cap x : Nat} {T : List (List (List UInt8) × Nat)} {n : List (List UInt8)} {wr w1 : World} {o : Obj} {vs : List Value} {v sl : Value} (hvl : vs.length = T.length) (hb : Blk wr g 208 [v])
  (hown : wr.ownsRow lo 273 2 v T.length (rowCells vs T)) (htx : ∀ i (hv : i < vs.length) (ht : i < T.length), TxtL lo wr vs[i] T[i].1) (hlow : ∀ r ∈ T, r.1.length ≤ 254 ∧ r.2 < 16384) (hlo : lo ≤ wr.heap.size) (hg : lo ≤ g)
  (hown1 : w1.ownsRow lo 273 2 (.slice (some ⟨gg, 0, none⟩) (T.length + 1) cap) (T.length + 1) (rowCells vs T ++ [sl, .int .i64 (x : Int)])) (hgrow : (wr.alloc o).drew.grownBy w1 v.ownBlock)
  (hsl : TxtL lo wr sl n) (hn : n.length ≤ 254) (hx : x < 16384) :
  RTab lo (w1.setCell ⟨g, 0, none⟩ (.slice (some ⟨gg, 0, none⟩) (T.length + 1) cap)) g (T ++ [(n, x)]) ∧ KeepR lo wr (w1.setCell ⟨g, 0, none⟩ (.slice (some ⟨gg, 0, none⟩) (T.length + 1) cap)) := by
 have hb1 : Blk w1 g 208 [v] := blk_own (hb.alloc o).drew (hown.alloc o) (by decide) hgrow
 have hB : Below lo wr (w1.setCell ⟨g, 0, none⟩ (.slice (some ⟨gg, 0, none⟩) (T.length + 1) cap)) := (((Below.refl lo wr).alloc hlo o).drew.grown hgrow (by simp; omega) (own_base hown)).setCell hg _
 have hK : ∀ k t cs, Blk wr k t cs → t ≠ 208 → t ≠ 273 → Blk (w1.setCell ⟨g, 0, none⟩ (.slice (some ⟨gg, 0, none⟩) (T.length + 1) cap)) k t cs := by
  intro k t cs hk h1 h2
  have hk1 : Blk w1 k t cs := blk_own (hk.alloc o).drew (hown.alloc o) h2 hgrow
  refine hk1.far (fun e => ?_) _
  subst e
  unfold Blk at hk1 hb1
  rw [hb1] at hk1
  injection hk1 with hk1
  injection hk1 with _ ht
  exact h1 ht.symm
 refine ⟨⟨vs ++ [sl], _, by simp [hvl], hb1.set 0 _, ?_, ?_, ?_⟩, hB, hK⟩
 ·
  rw [rowCells_snoc vs T sl _ hvl]
  have hne : gg ≠ g := by
   rintro rfl
   rcases hown1.2 with ⟨h, _⟩ | ⟨g', _, _, hv, _, hh, _⟩
   ·
    cases h
   ·
    injection hv with h1
    injection h1 with h1
    injection h1 with h1
    subst h1
    unfold Blk at hb1
    rw [hh] at hb1
    injection hb1 with hb1
    injection hb1 with _ ht
    exact absurd ht (by decide)
  have := ownsRow_setCell_other hown1 (a := ⟨g, 0, none⟩) (by simp [Value.ownBlock]; omega) (.slice (some ⟨gg, 0, none⟩) (T.length + 1) cap)
  simpa using this
 ·
  intro i hv ht
  by_cases hi : i < T.length
  ·
   have e1 : (vs ++ [sl])[i] = vs[i]'(by omega) := by rw [List.getElem_append_left]
   have e2 : (T ++ [(n, x)])[i] = T[i] := by rw [List.getElem_append_left]
   rw [e1, e2]
   exact (htx i (by omega) hi).below hB
  ·
   have hiT : i = T.length := by simp at ht; omega
   subst hiT
   have e1 : (vs ++ [sl])[T.length] = sl := by simp [← hvl]
   have e2 : (T ++ [(n, x)])[T.length] = (n, x) := by simp
   rw [e1, e2]
   exact hsl.below hB
 ·
  intro r hr
  rcases List.mem_append.1 hr with h | h
  ·
   exact hlow r h
  ·
   rw [List.mem_singleton] at h; rw [h]; exact ⟨hn, hx⟩
theorem RTab.below {lo : Nat} {w w' : World} {g : Nat} {T : List (List (List UInt8) × Nat)} (h : RTab lo w g T) (hlo : lo ≤ w.heap.size) (hb : Below w.heap.size w w') : RTab lo w' g T := by
 obtain ⟨vs, v, h1, h2, h3, h4, h5⟩ := h
 exact ⟨vs, v, h1, h2.below hb h2.lt, own_below h3 hb, fun i hv ht => (h4 i hv ht).below (hb.mono hlo), h5⟩
def RPutRet (lo g : Nat) (s : List UInt8) (T : List (List (List UInt8) × Nat)) (w : World) (e : Ending) (w' : World) : Prop :=
 e = .returned (.tuple #[.string (bs s), .int .i64 0]) ∧ RTab lo w' g T ∧ KeepR lo w w'
theorem rputRet_mk {lo g : Nat} {out s : List UInt8} {T T' : List (List (List UInt8) × Nat)} {w w' : World} (ho : out = s) (hT : T = T') (h : RTab lo w' g T) (hg : KeepR lo w w') : RPutRet lo g s T' w (.returned (.tuple #[.string (bs out), .int .i64 0])) w' := by
 subst ho hT; exact ⟨rfl, h, hg⟩
theorem refput_bad (p : Option Addr) (A : Option Addr) (c : Nat) (n : List (List UInt8)) (at_ : Int) (w : World) (hA : TxtR w A n) (hm : n.length ≤ 281474976710656) (hc : checkN n ≠ 0) :
  Calls prog 112 #[.pointer p, .slice A n.length c, .int .i64 at_] w (Ret (.tuple #[.string (bs []), .int .i64 (checkN n)]) w) := by
 have C := refCheck05_any A c n w hA hm
 generalize checkN n = e at *
 have hc' : (e != 0) = true := by simpa using hc
 go_enter func112, ntmps112
 go_wp2_with fail
 refine C.mono ?_
 rintro _ w1 ⟨rfl, rfl⟩
 go_wp2_with fail
 go_ret2
 exact Ret.mk rfl rfl
theorem both {p q : Prop} (h : p) (f : p → q) : p ∧ q := ⟨h, f h⟩
theorem ret_str2 {a b : List UInt8} {e : Int} (h : a = b) : Ending.returned (.tuple #[.string (bs a), .int .i64 e]) = .returned (.tuple #[.string (bs b), .int .i64 e]) := by rw [h]
theorem putB10 : putB 1 0 = [0] := by decide
theorem putB1 (k : Nat) (h : k ≤ 255) : putB 1 (k : Int) = [UInt8.ofNat k] := by
 have e : ((k : Int) % 256).toNat = k := by omega
 simp [putB, e]
set_option maxHeartbeats 4000000 in
theorem refput_tab (lo g : Nat) (T : List (List (List UInt8) × Nat)) (A : Option Addr) (c : Nat) (n : List (List UInt8)) (at_ : Int) (w : World) (hT : RTab lo w g T) (hlo : lo ≤ w.heap.size) (hgl : lo ≤ g) (hA : TxtL lo w (.slice A n.length c) n) (hcap : n.length ≤ c) (hc : checkN n = 0) (hTl : T.length ≤ 900000) :
  Calls prog 112 #[.pointer (some ⟨g, 0, none⟩), .slice A n.length c, .int .i64 at_] w (RPutRet lo g (pgo T at_ [] n).1 (T ++ (pgo T at_ [] n).2) w) := by
 obtain ⟨hg, hs⟩ := checkN_ok hc
 have hs' : lsum n ≤ 254 := by omega
 have hnl : n.length ≤ 254 := Nat.le_trans (lsum_ge n) hs'
 have C := refCheck05_any A c n w (hA.toR hlo).2 (by omega)
 rw [hc] at C
 have GG := Hh (show GoodN n from hg)
 clear hc hg
 go_enter func112, ntmps112
 go_wp2_with fail
 refine C.mono ?_
 rintro _ w1 ⟨rfl, rfl⟩
 go_wp2_with fail
 go_loopw [9, 10] (fun s i wr => ∃ k : Nat, k ≤ n.length ∧ i = .int .i64 k ∧ s = .string (bs (encN (n.take k))) ∧ Hid (∀ j, j < k → look T (n.drop j) = none) ∧ RTab lo wr g (T ++ rowsK at_ 0 n k) ∧ KeepR lo w wr) (fun _ i _ => n.length - (intOf i).toNat)
 case atStart => exact ⟨0, Nat.zero_le _, rfl, rfl, Hh (fun j hj => by omega), by simpa [rowsK] using hT, KeepR.refl _ _⟩
 case round =>
  clear C hT
  obtain ⟨k, hk, rfl, rfl, HN, hT, hBK⟩ := hrel
  have hB := hBK.1
  have hlo2 : lo ≤ wr.heap.size := below_size_le hB hlo
  have hrl := rowsK_length at_ 0 n k
  by_cases hlt : k < n.length
  ·
   have hlt' : (k : Int) < n.length := by omega
   obtain ⟨A0, c0, hv0, hA0⟩ := id hA
   injection hv0 with e1 _ e3
   subst e1 e3
   obtain ⟨ba, oa, rfl, hba, xa⟩ := hA0 (by omega)
   have xw : ∀ i (hi : i < n.length), wr.cell? ⟨ba, oa + i, none⟩ = some (.string (bs n[i])) := fun i hi => (hB.cell hba).trans (xa i hi)
   have XW := Hh xw
   clear hA0 xa xw
   have F := find_tab lo g (T ++ rowsK at_ 0 n k) (some ⟨ba, oa + k, none⟩) (c - k) (n.drop k) wr hT hlo2 (TxtR.drop XW.out (by omega) k) (by simp; omega) (by simp; omega) (by simp; omega)
   rw [List.length_drop] at F
   have hLA := look_rowsA (T := T) (at_ := at_) hlt
   have hkc : (k : Int) ≤ c := by omega
   have hkc2 : k < c := by omega
   cases hlo3 : look T (n.drop k) with
   | some q0 =>
    have hLI : lookI (T ++ rowsK at_ 0 n k) (n.drop k) = q0 := by unfold lookI; rw [hLA, hlo3]
    rw [hLI] at F
    have hhit := Hh (pgo_hit T at_ n k q0 hlt HN.out hlo3)
    have hq16 : q0 < 16384 := by
     obtain ⟨_, _, _, _, _, _, hlow⟩ := hT
     exact (hlow _ (List.mem_append_left _ (look_mem hlo3))).2
    clear hLI hLA hlo3
    have hq2 : (q0 : Int) < 16384 := by omega
    have hq0 : (0 : Int) ≤ q0 := by omega
    have hlt2 := lsum_take_le n k
    have hl : (encN (n.take k)).length ≤ 254 := by rw [encN_length]; omega
    obtain ⟨q, hq⟩ : ∃ q, q = encN (n.take k) := ⟨_, rfl⟩
    rw [← hq] at hl ⊢
    have HQ := Hh hq
    clear hq
    go_wp2_with fail
    refine F.mono ?_
    rintro _ w2 ⟨rfl, hB2⟩
    have hK2 : KeepR lo w w2 := hBK.trans (KeepR.old hB2 hlo2)
    have hB2' : Below lo w w2 := hK2.1
    have hT2 := hT.below hlo2 hB2
    have hlo4 : lo ≤ w2.heap.size := below_size_le hB2' hlo
    clear F hT hB hB2 hBK
    go_wp2_with fail
    refine (refPut_any _ _ _).mono ?_
    rw [show hw 2 = 2 from rfl]
    have hpl := putB_length 2 (49152 + (q0 : Int))
    rintro _ w3 ⟨rfl, hB3⟩
    generalize hpp : putB 2 (49152 + (q0 : Int)) = pp at *
    have HPP := Hh hpp
    have hpl2 : pp.length ≤ 2 := by omega
    clear hpp hpl
    go_wp2_with fail
    go_ret2
    exact rputRet_mk (by rw [hhit.out, HQ.out]) (by rw [hhit.out]) (hT2.below hlo4 hB3) (hK2.trans (KeepR.old hB3 hlo4))
   | none =>
    have hLI : lookI (T ++ rowsK at_ 0 n k) (n.drop k) = -1 := by unfold lookI; rw [hLA, hlo3]
    rw [hLI] at F
    have HLO := Hh hlo3
    clear hLI hLA hlo3
    go_wp2_with fail
    refine F.mono ?_
    rintro _ w2 ⟨rfl, hB2⟩
    have hK2 : KeepR lo w w2 := hBK.trans (KeepR.old hB2 hlo2)
    have hB2' : Below lo w w2 := hK2.1
    have hlo4 : lo ≤ w2.heap.size := below_size_le hB2' hlo
    have hT2 := hT.below hlo2 hB2
    have xw : ∀ i (hi : i < n.length), w2.cell? ⟨ba, oa + i, none⟩ = some (.string (bs n[i])) := fun i hi => (hB2.cell (show ba < wr.heap.size by omega)).trans (XW.out i hi)
    replace XW := Hh xw
    clear F xw hT hB hB2 hBK
    obtain ⟨q, hq⟩ : ∃ q, q = encN (n.take k) := ⟨_, rfl⟩
    rw [← hq]
    have hql : q.length = lsum (n.take k) := by rw [hq, encN_length]
    have hq254 := lsum_take_le n k
    rw [← hql] at hq254
    have HQL := Hh hql
    have HQ := Hh hq
    clear hq hql
    go_upto_region 11 with fail
    go_cut [51] (fun b wx => b = .bool (low at_ q.length) ∧ w2 = wx)
    case first =>
     by_cases h0 : 0 ≤ at_
     ·
      have d0 : decide (0 ≤ at_) = true := decide_eq_true h0
      by_cases h1 : at_ < 16384
      ·
       have d1 : decide (at_ < 16384) = true := decide_eq_true h1
       by_cases h2 : at_ + q.length < 16384
       ·
        have hl : low at_ q.length = true := (low_iff _ _).2 ⟨h0, h1, h2⟩
        have HLW := Hh hl
        clear hl
        go_wp2_with fail
        go_meet
        case rel => exact ⟨by rw [HLW.out], rfl⟩
       ·
        have hl : low at_ q.length = false := by
         cases hh : low at_ q.length with
         | false => rfl
         | true => exact absurd ((low_iff _ _).1 hh).2.2 h2
        have HLW := Hh hl
        have h2' : 16384 ≤ at_ + q.length := by omega
        clear hl
        go_wp2_with fail
        go_meet
        case rel => exact ⟨by rw [HLW.out], rfl⟩
      ·
       have d1 : decide (at_ < 16384) = false := decide_eq_false h1
       have hl : low at_ q.length = false := by
        cases hh : low at_ q.length with
        | false => rfl
        | true => exact absurd ((low_iff _ _).1 hh).2.1 h1
       have HLW := Hh hl
       clear hl
       have h1' : 16384 ≤ at_ := by omega
       by_cases h2 : wrap64 (at_ + q.length) < 16384
       ·
        have d2 : decide (wrap64 (at_ + q.length) < 16384) = true := decide_eq_true h2
        go_wp2_with fail
        go_meet
        case rel => exact ⟨by rw [HLW.out], rfl⟩
       ·
        have d2 : decide (wrap64 (at_ + q.length) < 16384) = false := decide_eq_false h2
        go_wp2_with fail
        go_meet
        case rel => exact ⟨by rw [HLW.out], rfl⟩
     ·
      have d0 : decide (0 ≤ at_) = false := decide_eq_false h0
      have hl : low at_ q.length = false := by
       cases hh : low at_ q.length with
       | false => rfl
       | true => exact absurd ((low_iff _ _).1 hh).1 h0
      have HLW := Hh hl
      clear hl
      have h0' : at_ < 0 := by omega
      go_wp2_with fail
      go_meet
      case rel => exact ⟨by rw [HLW.out], rfl⟩
    case rest =>
     obtain ⟨rfl, rfl⟩ := hcut
     have hRS : rowsK at_ 0 n (k + 1) = rowsK at_ 0 n k ++ (if low at_ q.length then [(n.drop k, (at_ + (q.length : Nat)).toNat)] else []) := by
      rw [rowsK_succ, ← HQL.out, Nat.zero_add]
     have HRS := Hh hRS
     clear hRS
     go_upto_if 51 with fail
     go_cut [] (fun wx => RTab lo wx g (T ++ rowsK at_ 0 n (k + 1)) ∧ KeepR lo w wx)
     case first =>
      cases hl : low at_ q.length with
      | false =>
       rw [hl, if_neg (by simp), List.append_nil] at HRS
       clear hl
       go_wp2_with fail
       go_meet
       case rel => exact ⟨by rw [HRS.out]; exact hT2, hK2⟩
      | true =>
       obtain ⟨l0, l1, l2⟩ := (low_iff _ _).1 hl
       rw [hl, if_pos rfl] at HRS
       clear hl
       obtain ⟨x, hx⟩ : ∃ x : Nat, x = (at_ + (q.length : Nat)).toNat := ⟨_, rfl⟩
       rw [← hx] at HRS
       have hxi : at_ + (q.length : Int) = x := by omega
       have hx16 : x < 16384 := by omega
       have HXI := Hh hxi
       clear hx hxi
       obtain ⟨vs, v, hvl, hb, hown, htx, hlow⟩ := hT2
       obtain ⟨Av, cv, hv⟩ := own_form hown
       rw [hv] at hb hown
       clear hv
       have HTX := Hh htx
       have HLOW := Hh hlow
       have HVL := Hh hvl
       clear htx hlow hvl
       have tc := hb.cell_ 0 rfl
       have tf := hb.frozen 0
       have hbl := hb.lt
       have hw1 : IntKind.i64.wrap (at_ + (q.length : Int)) = at_ + (q.length : Int) := IntWalk.i64_in _ (by omega)
       obtain ⟨i0, hi0, hz0, hz1, hz2⟩ := info_parts rowInfo
       have hTl2 : (T ++ rowsK at_ 0 n k).length ≤ 900254 := by simp; omega
       have hck : ¬ c = k := by omega
       obtain ⟨T1, hT1⟩ : ∃ T1, T1 = T ++ rowsK at_ 0 n k := ⟨_, rfl⟩
       rw [← hT1] at hb hown tc hTl2 HTX HLOW HVL
       have HT1 := Hh hT1
       clear hT1
       go_wp2_with fail
       go_region_law (refine step_append_lies _ rfl (.tmp 56) (.tmp 65) _ (by rfl) lo 273 i0 _ 2 32 underlying206 hi0 hz0 hz1 hz2 rfl (by decide) _ T1.length _ (by rfl) (World.ownsRow.alloc hown _) ⟨w2.heap.size, 0, none⟩ 1 1 [.slice (some ⟨ba, oa + k, none⟩) (n.length - k) (c - k), .int .i64 (at_ + (q.length : Int))] (by rfl) (by rfl) (World.news_of_block (heap_alloc_new _ _)) (by simp [Value.oneCell']) (by omega) (by simp only [maxLen]; omega) (by omega) (by simp; omega) (w2.heap.size + 1) (by simp) ?_; intro gg cap w3 hown1 hgrow hat hlt3; have h1 := blk_own (Blk.drew (Blk.alloc hb _)) (World.ownsRow.alloc hown _) (by decide) hgrow; have k3 := h1.cell_ 0 rfl; have kf := h1.frozen 0; clear tc)
       all_goals
        rw [HXI.out] at hown1
        have hsl := TxtL.drop (lo := lo) (c := c - k) XW.out hba k
        rw [List.length_drop] at hsl
        obtain ⟨R1, R2⟩ := rtab_row HVL.out hb hown HTX.out HLOW.out hlo4 hgl hown1 hgrow hsl (by simp; omega) hx16
        have hT5 : T ++ rowsK at_ 0 n (k + 1) = T1 ++ [(n.drop k, x)] := by rw [HRS.out, HT1.out, List.append_assoc]
        have HT5 := Hh hT5
        clear hT5
        go_wp2_with fail
        go_meet
        case rel => exact ⟨by rw [HT5.out]; exact R1, hK2.trans R2⟩
     case rest =>
      clear hT2 hB2' hlo4 HRS hK2
      obtain ⟨hT3, hK3⟩ := hcut
      have hB3 := hK3.1
      have hlo5 : lo ≤ wc.heap.size := below_size_le hB3 hlo
      have hba2 : ba < wc.heap.size := by omega
      have hL0 := hA
      obtain ⟨A0, c0, hv0, hA0⟩ := hL0
      injection hv0 with e1 _ e3
      subst e1 e3
      obtain ⟨b5, o5, e5, _, xa⟩ := hA0 (by omega)
      injection e5 with e5
      injection e5 with e5 e6
      subst e5 e6
      have hcell : wc.cell? ⟨ba, oa + k, none⟩ = some (.string (bs n[k])) := (hB3.cell hba).trans (xa k hlt)
      clear hA0 xa
      have ET := Hh (encN_take n k hlt)
      have hle2 := lsum_take_le n (k + 1)
      rw [lsum_take n k hlt, ← HQL.out] at hle2
      have hl63 := (GG.out n[k] (List.getElem_mem hlt)).2
      have hp1 := putB1 n[k].length (by omega)
      have hadd1 : ∀ W : World, (Op.stringOp .add (bs q) (bs [UInt8.ofNat n[k].length])).run prog W = .ok (.string (bs (q ++ [UInt8.ofNat n[k].length]))) W := fun W => by rw [run_string_add_sum W _ _ (by simp only [bs_size, List.length_singleton]; omega), bs_app]
      have hadd2 : ∀ W : World, (Op.stringOp .add (bs (q ++ [UInt8.ofNat n[k].length])) (bs n[k])).run prog W = .ok (.string (bs (q ++ [UInt8.ofNat n[k].length] ++ n[k]))) W := fun W => by rw [run_string_add_sum W _ _ (by simp only [bs_size, List.length_append, List.length_singleton]; omega), bs_app]
      have HP1 := Hh hp1
      clear hp1
      have hcl : ∀ W, Below wc.heap.size wc W → W.cell? ⟨ba, oa + k, none⟩ = some (.string (bs n[k])) := fun W hW => (hW.cell hba2).trans hcell
      have HCL := Hh hcl
      clear hcl
      go_wp2_with fail
      go_region_held3 (fun w' => Below wc.heap.size wc w' ∧ w'.cell? ⟨ba, oa + k, none⟩ = some (.string (bs n[k]))) ((refine both ?_ (HCL.out _); first | exact (Below.refl _ _).drew | exact held_step (And.left ‹Below wc.heap.size wc _ ∧ _›) b3))
       ((go_at_call 84; refine (refPut_any _ _ _).mono ?_; rw [show hw 1 = 1 from rfl, HP1.out]; rintro e w3 ⟨rfl, b3⟩))
      have bR := And.left ‹Below wc.heap.size wc _ ∧ _›
      clear hadd1 hadd2 HCL
      clear ‹Below wc.heap.size wc _ ∧ _›
      go_wp2_with fail
      go_roundw
      case rel =>
       refine ⟨k + 1, by omega, by go_num, ?_, Hh (fun j hj => by
        by_cases e : j = k
        ·
         subst e; exact HLO.out
        ·
         exact HN.out j (by omega)), hT3.below hlo5 bR, hK3.trans (KeepR.old bR hlo5)⟩
       rw [ET.out, HQ.out]; simp
      case measure => simp [intOf]; omega
  ·
   obtain rfl : k = n.length := by omega
   have hlt' : ¬ (n.length : Int) < n.length := by omega
   have hmiss := Hh (pgo_miss T at_ n HN.out)
   rw [List.take_of_length_le (Nat.le_refl _)]
   have hl : (encN n).length ≤ 254 := by rw [encN_length]; exact hs'
   obtain ⟨q, hq⟩ : ∃ q, q = encN n := ⟨_, rfl⟩
   rw [← hq] at hl ⊢
   have HQ := Hh hq
   clear hq
   go_wp2_with fail
   refine (refPut_any _ _ _).mono ?_
   rw [show hw 1 = 1 from rfl, putB10]
   rintro _ w3 ⟨rfl, hB3⟩
   go_wp2_with fail
   go_ret2
   exact rputRet_mk (by rw [hmiss.out, HQ.out]) (by rw [hmiss.out]) (hT.below hlo2 hB3) (hBK.trans (KeepR.old hB3 hlo2))
set_option maxHeartbeats 2000000 in
theorem refput_nil (A : Option Addr) (c : Nat) (n : List (List UInt8)) (at_ : Int) (w : World) (hA : TxtR w A n) (hcap : n.length ≤ c) (hc : checkN n = 0) :
  Calls prog 112 #[.pointer none, .slice A n.length c, .int .i64 at_] w (RetB (.tuple #[.string (bs (encZ n)), .int .i64 0]) w) := by
 obtain ⟨hg, hs⟩ := checkN_ok hc
 have hs' : lsum n ≤ 254 := by omega
 have hnl : n.length ≤ 254 := Nat.le_trans (lsum_ge n) hs'
 have C := refCheck05_any A c n w hA (by omega)
 rw [hc] at C
 have GG := Hh (show GoodN n from hg)
 clear hc hg
 go_enter func112, ntmps112
 go_wp2_with fail
 refine C.mono ?_
 rintro _ w1 ⟨rfl, rfl⟩
 go_wp2_with fail
 go_loopw [9, 10] (fun s i wr => ∃ k : Nat, k ≤ n.length ∧ i = .int .i64 k ∧ s = .string (bs (encN (n.take k))) ∧ Below w.heap.size w wr) (fun _ i _ => n.length - (intOf i).toNat)
 case atStart => exact ⟨0, Nat.zero_le _, rfl, rfl, Below.refl _ _⟩
 case round =>
  clear C
  obtain ⟨k, hk, rfl, rfl, hB⟩ := hrel
  by_cases hlt : k < n.length
  ·
   have hlt' : (k : Int) < n.length := by omega
   obtain ⟨ba, oa, rfl, hba, xa⟩ := hA (by omega)
   have hcell := (hB.cell hba).trans (xa k hlt)
   have hkc : (k : Int) ≤ c := by omega
   have hkc2 : k < c := by omega
   have F := find_nil (some ⟨ba, oa + k, none⟩) (c - k) (n.drop k) wr
   rw [List.length_drop] at F
   have ET := Hh (encN_take n k hlt)
   have hle2 := lsum_take_le n (k + 1)
   rw [lsum_take n k hlt] at hle2
   have hl63 := (GG.out n[k] (List.getElem_mem hlt)).2
   obtain ⟨q, hq⟩ : ∃ q, q = encN (n.take k) := ⟨_, rfl⟩
   rw [← hq]
   have hql : q.length = lsum (n.take k) := by rw [hq, encN_length]
   rw [← hql] at hle2
   have HQ := Hh hq
   clear hq hql xa
   go_wp2_with fail
   refine F.mono ?_
   rintro _ w2 ⟨rfl, rfl⟩
   clear F
   have hp1 := putB1 n[k].length (by omega)
   have hadd1 : ∀ W : World, (Op.stringOp .add (bs q) (bs [UInt8.ofNat n[k].length])).run prog W = .ok (.string (bs (q ++ [UInt8.ofNat n[k].length]))) W := fun W => by rw [run_string_add_sum W _ _ (by simp only [bs_size, List.length_singleton]; omega), bs_app]
   have hadd2 : ∀ W : World, (Op.stringOp .add (bs (q ++ [UInt8.ofNat n[k].length])) (bs n[k])).run prog W = .ok (.string (bs (q ++ [UInt8.ofNat n[k].length] ++ n[k]))) W := fun W => by rw [run_string_add_sum W _ _ (by simp only [bs_size, List.length_append, List.length_singleton]; omega), bs_app]
   have HP1 := Hh hp1
   clear hp1
   have hba2 : ba < wr.heap.size := Nat.lt_of_lt_of_le hba hB.size
   have hcl : ∀ W, Below wr.heap.size wr W → W.cell? ⟨ba, oa + k, none⟩ = some (.string (bs n[k])) := fun W hW => (hW.cell hba2).trans hcell
   have HCL := Hh hcl
   clear hcl
   go_wp2_with fail
   go_region_held3 (fun w' => Below wr.heap.size wr w' ∧ w'.cell? ⟨ba, oa + k, none⟩ = some (.string (bs n[k]))) ((refine both ?_ (HCL.out _); first | exact (Below.refl _ _).drew | exact held_step (And.left ‹Below wr.heap.size wr _ ∧ _›) b3))
    ((go_at_call 84; refine (refPut_any _ _ _).mono ?_; rw [show hw 1 = 1 from rfl, HP1.out]; rintro e w3 ⟨rfl, b3⟩))
   have bR := And.left ‹Below wr.heap.size wr _ ∧ _›
   clear hadd1 hadd2 HCL
   clear ‹Below wr.heap.size wr _ ∧ _›
   go_wp2_with fail
   go_roundw
   case rel =>
    refine ⟨k + 1, by omega, by go_num, ?_, below_then hB hB.size bR⟩
    rw [ET.out, HQ.out]; simp
   case measure => simp [intOf]; omega
  ·
   obtain rfl : k = n.length := by omega
   have hlt' : ¬ (n.length : Int) < n.length := by omega
   rw [List.take_of_length_le (Nat.le_refl _)]
   have hl : (encN n).length ≤ 254 := by rw [encN_length]; exact hs'
   obtain ⟨q, hq⟩ : ∃ q, q = encN n := ⟨_, rfl⟩
   rw [← hq] at hl ⊢
   have HQ := Hh hq
   clear hq
   go_wp2_with fail
   refine (refPut_any _ _ _).mono ?_
   rw [show hw 1 = 1 from rfl, putB10]
   rintro _ w3 ⟨rfl, hB3⟩
   go_wp2_with fail
   go_ret2
   exact RetB.mk (ret_str2 (by rw [HQ.out]; rfl)) (below_then hB hB.size hB3)
end Go.Proofs.YthnbcmlnpdabhaaGreat
