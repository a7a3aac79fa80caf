/-
  Layer 12, the reference: tables as rows; find.
-/
import Derived.Test.YtlmgdogblbigpaaPk8
namespace Go.Proofs.Ytlmgdogblbigpaa
open Go.RowKit
set_option maxRecDepth 100000
set_option linter.unusedVariables false

/-- A slice of texts that lies below lo. -/
def TxtL (lo : Nat) (w : World) (v : Value) (l : List (List UInt8)) : Prop :=
  ∃ A c, v = .slice A l.length c ∧ (0 < l.length → ∃ b off, A = some ⟨b, off, none⟩ ∧ b < lo ∧ ∀ i (hi : i < l.length), w.cell? ⟨b, off + i, none⟩ = some (.string (bs l[i])))
theorem TxtL.below {lo : Nat} {w w' : World} {v : Value} {l : List (List UInt8)} (h : TxtL lo w v l) (hb : Below lo w w') : TxtL lo w' v l := by
  obtain ⟨A, c, hv, h⟩ := h
  refine ⟨A, c, hv, fun hp => ?_⟩
  obtain ⟨b, off, hA, hlt, hc⟩ := h hp
  exact ⟨b, off, hA, hlt, fun i hi => (hb.cell hlt).trans (hc i hi)⟩
theorem TxtL.toR {lo : Nat} {w : World} {A : Option Addr} {k c : Nat} {l : List (List UInt8)} (h : TxtL lo w (.slice A k c) l) (hlo : lo ≤ w.heap.size) : k = l.length ∧ TxtR w A l := by
  obtain ⟨A', c', hv, h⟩ := h
  injection hv with h1 h2 h3
  subst h1 h2 h3
  refine ⟨rfl, fun hp => ?_⟩
  obtain ⟨b, off, hA, hlt, hc⟩ := h hp
  exact ⟨b, off, hA, by omega, hc⟩
/-- The cells of rows. -/
def rowCells : List Value → List (List (List UInt8) × Nat) → List Value
  | v :: vs, r :: T => v :: .int .i64 (r.2 : Int) :: rowCells vs T
  | _, _ => []
theorem rowCells_length : ∀ (vs : List Value) (T : List (List (List UInt8) × Nat)), vs.length = T.length → (rowCells vs T).length = T.length * 2
  | [], [], _ => rfl
  | v :: vs, r :: T, h => by
    simp only [rowCells, List.length_cons]
    rw [rowCells_length vs T (by simpa using h)]; omega
theorem rowCells_snoc : ∀ (vs : List Value) (T : List (List (List UInt8) × Nat)) (v : Value) (r : List (List UInt8) × Nat), vs.length = T.length → rowCells (vs ++ [v]) (T ++ [r]) = rowCells vs T ++ [v, .int .i64 (r.2 : Int)]
  | [], [], v, r, _ => rfl
  | u :: vs, x :: T, v, r, h => by
    simp only [List.cons_append, rowCells]
    rw [rowCells_snoc vs T v r (by simpa using h)]
theorem rowCells_get : ∀ (vs : List Value) (T : List (List (List UInt8) × Nat)) (i : Nat) (hv : i < vs.length) (ht : i < T.length), vs.length = T.length → (rowCells vs T)[i * 2]? = some vs[i] ∧ (rowCells vs T)[i * 2 + 1]? = some (.int .i64 (T[i].2 : Int))
  | v :: vs, r :: T, 0, _, _, _ => ⟨rfl, rfl⟩
  | v :: vs, r :: T, i + 1, hv, ht, h => by
    have := rowCells_get vs T i (by simpa using hv) (by simpa using ht) (by simpa using h)
    simp only [rowCells, List.getElem_cons_succ]
    rw [show (i + 1) * 2 = i * 2 + 1 + 1 by omega]
    exact this
/-- The reference's table. -/
def RTab (lo : Nat) (w : World) (g : Nat) (T : List (List (List UInt8) × Nat)) : Prop :=
  ∃ (vs : List Value) (v : Value), vs.length = T.length ∧ Blk w g 40 [v] ∧ w.ownsRow lo 116 2 v T.length (rowCells vs T) ∧ (∀ i (hv : i < vs.length) (ht : i < T.length), TxtL lo w vs[i] T[i].1) ∧ (∀ r ∈ T, r.1.length ≤ 254 ∧ r.2 < 16384)
theorem rowInfo : (Try.prog.info? 116).map (fun i => (i.zero, i.size, i.bytes)) = some (some (.agg #[.slice none 0 0, .int .i64 0]), 2, 32) := by kernel_rfl
/-- -1: nowhere. -/
def lookI (T : List (List (List UInt8) × Nat)) (n : List (List UInt8)) : Int := match look T n with
  | some q => q
  | none => -1
theorem look_take {T : List (List (List UInt8) × Nat)} {n : List (List UInt8)} {k : Nat} (hk : k < T.length) (h : look (T.take k) n = none) : (T[k].1 = n → look T n = some T[k].2) ∧ (T[k].1 ≠ n → look (T.take (k + 1)) n = none) := by
  have hT : T = T.take k ++ (T[k] :: T.drop (k + 1)) := by
    rw [← List.drop_eq_getElem_cons hk, List.take_append_drop]
  have h0 : (T.take k).find? (fun r => r.1 == n) = none := by simpa [look] using h
  constructor
  · intro e
    have key : ∀ (r : List (List UInt8) × Nat) (U : List (List (List UInt8) × Nat)), r.1 = n → look (T.take k ++ (r :: U)) n = some r.2 := by
      intro r U hr
      unfold look
      rw [List.find?_append, h0]
      simp [hr]
    have := key T[k] (T.drop (k + 1)) e
    rwa [← hT] at this
  · intro e
    unfold look
    rw [List.take_succ_eq_append_getElem hk, List.find?_append, h0]
    simp [e]

set_option maxHeartbeats 1000000 in
theorem find_tab (lo g : Nat) (T : List (List (List UInt8) × Nat)) (A : Option Addr) (c : Nat) (n : List (List UInt8)) (w : World) (hT : RTab lo w g T) (hlo : lo ≤ w.heap.size) (hA : TxtR w A n) (hn : 0 < n.length) (hnl : n.length ≤ 254) (hTl : T.length ≤ 1000000) :
    Calls Try.prog 64 #[.pointer (some ⟨g, 0, none⟩), .slice A n.length c] w (RetB (.int .i64 (lookI T n)) w) := by
  obtain ⟨vs, v, hvl, hb, hown, htx, hlow⟩ := hT
  obtain ⟨Av, cv, hv⟩ := own_form hown
  subst hv
  have HTX := Lib.hid htx
  have HLOW := Lib.hid hlow
  have HVL := Lib.hid hvl
  clear htx hlow hvl
  have hn0 : ((n.length : Int) == 0) = false := by rw [beq_eq_false_iff_ne]; omega
  go_enter Try.func64, Try.ntmps64
  go_wp2_with fail
  go_loopw [5] (fun i wr => ∃ k : Nat, k ≤ T.length ∧ i = .int .i64 k ∧ Hid (look (T.take k) n = none) ∧ Below w.heap.size w wr) (fun i _ => T.length - (intOf i).toNat)
  case atStart => exact ⟨0, Nat.zero_le _, rfl, Lib.hid rfl, Below.refl _ _⟩
  case round =>
    obtain ⟨k, hk, rfl, HN, hB⟩ := hrel
    have tc := (hb.below hB hb.lt).cell_ 0 rfl
    by_cases hlt : k < T.length
    · have hlt' : (k : Int) < T.length := by omega
      have hvk : k < vs.length := by rw [HVL.out]; exact hlt
      obtain ⟨G, hAv⟩ : ∃ G, Av = some ⟨G, 0, none⟩ := by
        rcases hown.2 with ⟨_, h0⟩ | ⟨G, cap, cur, hv, _⟩
        · omega
        · exact ⟨G, by injection hv⟩
      subst hAv
      have hGl := (hown.lt G rfl).2
      obtain ⟨g1, g2⟩ := rowCells_get vs T k hvk hlt HVL.out
      have r1 := (hB.cell (p := ⟨G, k * 2, none⟩) hGl).trans ((hown.cellAt (k * 2) (by omega)).trans g1)
      have r2 := (hB.cell (p := ⟨G, k * 2 + 1, none⟩) hGl).trans ((hown.cellAt (k * 2 + 1) (by omega)).trans g2)
      have hL1 := HTX.out k hvk hlt
      obtain ⟨A1, c1, hv1, _⟩ := id hL1
      rw [hv1] at r1 hL1
      have hR1 := ((hL1.below (hB.mono hlo)).toR (Nat.le_trans hlo hB.size)).2
      have hRn := hA.below hB
      have hTk := (HLOW.out T[k] (List.getElem_mem hlt)).1
      have hLT := look_take hlt HN.out
      have HLT := Lib.hid hLT
      clear g1 g2 hv1 hL1 hLT
      obtain ⟨r, hr⟩ : ∃ r, r = T[k] := ⟨_, rfl⟩
      rw [← hr] at r1 r2 hR1 hTk HLT
      clear hr
      by_cases he : r.1 = n
      · have hlook := HLT.out.1 he
        have hLI : lookI T n = r.2 := by unfold lookI; rw [hlook]
        have HLI := Lib.hid hLI
        have HE := Lib.hid he
        clear hlook hLI he
        go_wp2_with fail
        refine (exact_any A1 A r.1 n _ _ _ hR1 hRn (by omega) (by omega)).mono ?_
        rw [decide_eq_true HE.out]
        rintro _ w2 ⟨rfl, hB2⟩
        have hB2' := below_then hB hB.size hB2
        have tc2 := (hb.below hB2' hb.lt).cell_ 0 rfl
        have r22 := (hB2.cell (p := ⟨G, k * 2 + 1, none⟩) (Nat.lt_of_lt_of_le hGl hB.size)).trans r2
        clear tc r1 r2 hB2 hR1 hRn
        go_wp2_with fail
        go_ret
        exact RetB.mk (ret_int HLI.out.symm) hB2'
      · have hno := HLT.out.2 he
        have HNO := Lib.hid hno
        have HE := Lib.hid he
        clear hno he
        go_wp2_with fail
        refine (exact_any A1 A r.1 n _ _ _ hR1 hRn (by omega) (by omega)).mono ?_
        rw [decide_eq_false HE.out]
        rintro _ w2 ⟨rfl, hB2⟩
        have hB2' := below_then hB hB.size hB2
        clear tc r1 r2 hB2 hR1 hRn
        go_wp2_with fail
        go_roundw
        case rel => exact ⟨k + 1, by omega, by go_num, HNO, hB2'⟩
        case measure => simp [intOf]; omega
    · have hlt' : ¬ (k : Int) < T.length := by omega
      have hLI : lookI T n = -1 := by
        have := HN.out
        rw [List.take_of_length_le (by omega)] at this
        unfold lookI; rw [this]
      have HLI := Lib.hid hLI
      clear hLI
      go_wp2_with fail
      go_ret
      exact RetB.mk (ret_int HLI.out.symm) hB
theorem find_nil (A : Option Addr) (c : Nat) (n : List (List UInt8)) (w : World) :
    Calls Try.prog 64 #[.pointer none, .slice A n.length c] w (Ret (.int .i64 (-1)) w) := by
  go_enter Try.func64, Try.ntmps64
  go_wp2_with fail
  go_ret
  exact Ret.mk rfl rfl
end Go.Proofs.Ytlmgdogblbigpaa
