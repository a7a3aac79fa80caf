/-
  Go's strings.SplitSeq: the iterator, walked at a row of pieces.
-/
import Derived.Test.YtkcbffldncmbcaaGreatDoorTy31q
namespace Go.Proofs.YtkcbffldncmbcaaGreatDoor
open _root_.Go.Proofs.Tryz
open Go.RowKit Go.Shelf
set_option maxRecDepth 100000
set_option linter.unusedVariables false
set_option linter.unusedSimpArgs false
attribute [local go_sem] Oper.semAt_some
def SqAt (h : Nat) (ps : List (List UInt8)) (k : Nat) (W : World) : Prop := Blk W h 9 [.string (bs (joinC 10 (ps.drop k)))] ∧ Blk W (h + 1) 9 [.string (bs [10])] ∧ Blk W (h + 2) 3 [.int .i64 0]
def szOf (h : Nat) (w : World) : Nat := match w.cell? ⟨h, 0, none⟩ with
 | some (.string b) => b.size
 | _ => 0
theorem pieces_next {ps : List (List UInt8)} {k : Nat} (h : k + 1 < ps.length) : joinC 10 (ps.drop k) = ps[k] ++ 10 :: joinC 10 (ps.drop (k + 1)) := by
 rw [List.drop_eq_getElem_cons (by omega), List.drop_eq_getElem_cons (l := ps) (i := k + 1) h]
 simp only [joinC, List.flatMap_cons, List.cons_append]
theorem pieces_last {ps : List (List UInt8)} {k : Nat} (h : k + 1 = ps.length) : joinC 10 (ps.drop k) = ps[k] := by
 rw [List.drop_eq_getElem_cons (by omega), List.drop_of_length_le (by omega)]
 simp [joinC]
theorem pieces_le (ps : List (List UInt8)) : ∀ k, (joinC 10 (ps.drop k)).length ≤ (joinC 10 ps).length := by
 intro k
 induction k with
 | zero => simp
 | succ k ih =>
  by_cases h : k + 1 < ps.length
  ·
   have := congrArg List.length (pieces_next h)
   rw [List.length_append, List.length_cons] at this
   omega
  ·
   rw [List.drop_of_length_le (by omega)]; simp [joinC]
theorem sqIt_any (n l h : Nat) (ps : List (List UInt8)) (hp : 0 < ps.length) (hno : ∀ p ∈ ps, (10 : UInt8) ∉ p) (hlen : (joinC 10 ps).length ≤ 1000000) (A B : Nat → World → Prop)
  (hY : ∀ k (hk : k < ps.length) W1, A k W1 → YieldAt Fence.wide (n - 1) prog l #[.string (bs ps[k])] W1 (fun e W' => e = .returned (.bool true) ∧ B k W'))
  (hAc : ∀ k W, k < ps.length → A k W → SqAt h ps k W) (hBc : ∀ k W, k < ps.length → B k W → SqAt h ps k W)
  (hS : ∀ k W, k + 1 < ps.length → B k W → A (k + 1) (W.setCell ⟨h, 0, none⟩ (.string (bs (joinC 10 (ps.drop (k + 1)))))))
  (W : World) (h0 : A 0 W) : CallsIn Fence.wide n prog 69 #[.func (.yield l) #[] #[], .pointer (some ⟨h + 1, 0, none⟩), .pointer (some ⟨h, 0, none⟩), .pointer (some ⟨h + 2, 0, none⟩)] W (fun e W' => (∃ v, e = .returned v) ∧ B (ps.length - 1) W') := by
 have IX := Hh (fun s V => Tryz.strings_Index_one (bs s) 10 V)
 obtain ⟨s1, s2, s3⟩ := hAc 0 W hp h0
 have c2 := s2.cell_ 0 (u := .string (bs [10])) rfl
 refine callsIn_of_wp func69 rfl trivial ?_ rfl
 simp only [ntmps69, List.size_toArray, List.length_cons, List.length_nil, Nat.reduceAdd, Nat.reduceSub, Array.replicate_succ, Array.replicate_zero, List.push_toArray, List.append_toArray, List.nil_append, List.cons_append]
 have HLN := Hh (fun k => Nat.le_trans (pieces_le ps k) hlen)
 gi_wp2
 clear s1 s2 s3 c2
 gi_loopw [7] (fun p wr => ∃ k, k < ps.length ∧ A k wr) (fun p wr => szOf h wr)
 case atStart => exact ⟨0, hp, h0⟩
 case round =>
  obtain ⟨k, hk, hA⟩ := hrel
  obtain ⟨s1, s2, s3⟩ := hAc k wr hk hA
  have c1 := s1.cell_ 0 (u := .string (bs (joinC 10 (ps.drop k)))) rfl
  have c2 := s2.cell_ 0 (u := .string (bs [10])) rfl
  have c3 := s3.cell_ 0 (u := .int .i64 0) rfl
  by_cases hl : k + 1 < ps.length
  case pos =>
   have hR := hY k hk wr hA
   have hix : Lib.indexByte (bs (joinC 10 (ps.drop k))).data.toList 10 = (ps[k].length : Int) := by
    rw [pieces_next hl]
    exact ixb_yes (hno _ (List.getElem_mem hk))
   obtain ⟨fn, tmps, assign, body, hy, hRR⟩ := hR
   have IX1 := IX.out (joinC 10 (ps.drop k)) wr
   rw [hix] at IX1
   have IX2 := Hh IX1
   have hpl : (ps[k] : List UInt8).length + 1 ≤ (joinC 10 (ps.drop k)).length := by rw [pieces_next hl, List.length_append, List.length_cons]; omega
   have htk : (joinC 10 (ps.drop k)).take ps[k].length = ps[k] := by rw [pieces_next hl]; simp
   have hdk : Hid ((joinC 10 (ps.drop k)).drop (ps[k].length + 1) = joinC 10 (ps.drop (k + 1))) := Hh (by rw [pieces_next hl]; simp [List.drop_append])
   have hsz : (joinC 10 (ps.drop k)).length ≤ 1000000 := HLN.out k
   have hm1 : szOf h wr = (joinC 10 (ps.drop k)).length := by unfold szOf; rw [c1]; exact bs_size _
   have HBC := Hh (fun V hB => (show Blk V h 9 [.string (bs (joinC 10 (ps.drop k)))] ∧ Blk V (h + 1) 9 [.string (bs [10])] ∧ Blk V (h + 2) 3 [.int .i64 0] from hBc k V hk hB))
   have HS := Hh (fun V => hS k V hl)
   rw [← hdk.out] at HS
   have hi1 : ((ps[k] : List UInt8).length : Int) ≤ ((joinC 10 (ps.drop k)).length : Int) := by omega
   have hi2 : ((ps[k] : List UInt8).length : Int) + 1 ≤ ((joinC 10 (ps.drop k)).length : Int) := by omega
   have hm2 : (joinC 10 (ps.drop (k + 1))).length < (joinC 10 (ps.drop k)).length := by rw [pieces_next hl, List.length_append, List.length_cons]; omega
   generalize joinC 10 (ps.drop k) = rest at *
   generalize ps[k] = pc at *
   clear hix hS hY hAc hBc IX IX1 hno
   gi_wp2
   refine ⟨trivial, fun h => (by cases h), (callsIn_wide.2 IX2.out).mono ?_⟩
   rintro _ _ ⟨rfl, rfl⟩
   clear IX2
   gi_wp2
   refine ⟨fun h => (by cases h), hRR.mono ?_⟩
   rintro e W' ⟨rfl, hB⟩
   obtain ⟨t1, t2, t3⟩ := HBC.out W' hB
   have d1 := t1.cell_ 0 (u := .string (bs rest)) rfl
   have d2 := t2.cell_ 0 (u := .string (bs [10])) rfl
   have d3 := t3.cell_ 0 (u := .int .i64 0) rfl
   have e1 := t1.frozen 0
   have hA2 := Hh (HS.out W' hB)
   have hm3 : szOf h (W'.setCell ⟨h, 0, none⟩ (.string (bs (rest.drop (pc.length + 1))))) = (rest.drop (pc.length + 1)).length := by
    unfold szOf
    rw [(t1.set 0 (.string (bs (rest.drop (pc.length + 1))))).cell_ 0 (u := .string (bs (rest.drop (pc.length + 1)))) rfl]
    exact bs_size _
   have HM := Hh hm3
   clear t1 t2 t3 hRR hy hB HS HBC hm3 c1 c2 c3 s1 s2 s3 hA
   gi_wp2
   go_roundw
   case rel => exact ⟨k + 1, hl, hA2.out⟩
   case measure => rw [hm1, HM.out, hdk.out]; exact hm2
  have hkl : k + 1 = ps.length := by omega
  have hR := hY k hk wr hA
  have hix : Lib.indexByte (bs (joinC 10 (ps.drop k))).data.toList 10 = -1 := by
   rw [pieces_last hkl]
   exact ixb_no (hno _ (List.getElem_mem hk))
  obtain ⟨fn, tmps, assign, body, hy, hRR⟩ := hR
  have IX1 := IX.out (joinC 10 (ps.drop k)) wr
  rw [hix] at IX1
  have IX2 := Hh IX1
  have hke : k = ps.length - 1 := by omega
  rw [← pieces_last hkl] at hy
  generalize joinC 10 (ps.drop k) = rest at *
  clear hix hS hY hAc hBc IX IX1 hno HLN
  gi_wp2
  refine ⟨trivial, fun h => (by cases h), (callsIn_wide.2 IX2.out).mono ?_⟩
  rintro _ _ ⟨rfl, rfl⟩
  clear IX2
  gi_wp2
  refine ⟨fun h => (by cases h), hRR.mono ?_⟩
  rintro e W' ⟨rfl, hB⟩
  gi_wp2
  go_end0
  exact ⟨⟨_, rfl⟩, by rw [← hke]; exact hB⟩
end Go.Proofs.YtkcbffldncmbcaaGreatDoor
