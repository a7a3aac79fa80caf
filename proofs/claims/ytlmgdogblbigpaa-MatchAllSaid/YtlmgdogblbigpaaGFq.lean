/-
  Layer 12 (packed): octets, New; tables as maps.
-/
import Derived.Test.YtlmgdogblbigpaaGBq
import Derived.Maps.OwnSet
import Derived.Test.YtlmgdogblbigpaaGAq
import Derived.Deep.CutBlock
namespace Go.Proofs.Ytlmgdogblbigpaa
open Go.RowKit
set_option maxRecDepth 100000
set_option linter.unusedVariables false

/-- 'string(b)', b a row of the call's own. -/
theorem run_str_own {w : World} {B : Nat} {v : Value} {q : List UInt8} (h : w.ownsRow B 5 1 v q.length (octs q)) : (convert 94 9 v).run Try.prog w = .ok (.string (bs q)) w := by
  rcases h.2 with ⟨rfl, h0⟩ | ⟨g, cap, cur, rfl, _⟩
  · have : q = [] := List.length_eq_zero_iff.1 h0
    subst this
    have : (convert 94 9 (.slice none 0 0)).run Try.prog w = .ok (.string ⟨#[]⟩) w := by kernel_rfl
    exact this
  · refine run_convert_bytes_back w 94 9 5 ⟨g, 0, none⟩ cap q Try.underlying94 Try.underlying5 Try.underlying9 ?_
    intro j hj
    exact h.cells (g := g) rfl j _ (octs_get q j hj)
theorem encN_take (n : List (List UInt8)) (k : Nat) (h : k < n.length) : encN (n.take (k + 1)) = encN (n.take k) ++ [UInt8.ofNat n[k].length] ++ n[k] := by
  rw [List.take_succ_eq_append_getElem h, encN_app]; simp [encN, encL]
end Go.Proofs.Ytlmgdogblbigpaa
/-
  Layer 12 (packed): tables as maps; New; Put without a table, and of names that may not be.
-/
namespace Go.Proofs.Ytlmgdogblbigpaa
open Go.RowKit Go.Maps
set_option maxRecDepth 100000
set_option linter.unusedVariables false

theorem strKeyed : Keyed Try.prog 9 := string_keyed Try.underlying9
theorem zeroInt (w : World) : (zeroValue 3).run Try.prog w = .ok (.int .i64 0) w := by kernel_rfl
/-- Block b is a map from texts to numbers, of at most n entries. -/
def MapOf (w : World) (b n : Nat) (f : List UInt8 → Option Nat) : Prop :=
  ∃ D : DataW Unit, w.ownsMap Try.prog 9 (plainElem Try.prog 3) b n D ∧ ∀ k, match f k with
    | none => Maps.has D (.string k) = false
    | some x => Maps.has D (.string k) = true ∧ ∀ z, D.atKey (.string k) z = .lit (.int .i64 (x : Int))
theorem keyStr (k : List UInt8) (hk : k.length ≤ maxLen) : keyOf Try.prog 9 (.string (bs k)) = some (Lit.string k) := by
  have := WideMaps.keyOf_string_mk Try.underlying9 (s := bs k) (by rw [bs_size]; exact hk)
  rwa [bs_data] at this
theorem MapOf.look {w : World} {b n : Nat} {f : List UInt8 → Option Nat} (h : MapOf w b n f) (k : List UInt8) (hk : k.length ≤ maxLen) :
    (Instr.lookup 106 (.map (some b)) (.string (bs k)) true).run Try.prog w = .ok (.tuple #[.int .i64 ((f k).getD 0 : Nat), .bool (f k).isSome]) w := by
  obtain ⟨D, ho, hf⟩ := h
  obtain ⟨v, ps, hrun, hv⟩ := ho.look_ok strKeyed Try.underlying106 (zeroInt w) (plainElem_int Try.underlying3 (a := 0) (by decide)) (keyStr k hk)
  obtain ⟨a, rfl, ha, _⟩ := plainElem_int_inv Try.underlying3 hv
  have hfk := hf k
  rw [hrun]
  cases hk : f k with
  | none =>
    rw [hk] at hfk
    simp only at hfk
    rw [Maps.atKey_of_not_has hfk] at ha
    have : a = 0 := by simpa using (congrArg Prod.fst ha).symm
    subst this
    rw [hfk]; rfl
  | some x =>
    rw [hk] at hfk
    simp only at hfk
    rw [hfk.2] at ha
    have : a = (x : Int) := by simpa using (congrArg Prod.fst ha).symm
    subst this
    rw [hfk.1]; rfl
theorem MapOf.store {w : World} {b n : Nat} {f : List UInt8 → Option Nat} (h : MapOf w b n f) (k : List UInt8) (hk : k.length ≤ maxLen) (x : Nat) (hx : x < 16384) (hn : n < maxLen) :
    ∃ w', (Instr.mapUpdate 106 (.map (some b)) (.string (bs k)) (.int .i64 (x : Int))).run Try.prog w = .ok () w' ∧ MapOf w' b (n + 1) (fun j => if j = k then some x else f j) ∧ w.grownBy w' (some b) := by
  obtain ⟨D, ho, hf⟩ := h
  obtain ⟨w', hrun, ho', hg⟩ := ho.update strKeyed Try.underlying106 hn (keyStr k hk) (plainElem_int Try.underlying3 (a := (x : Int)) (WalkArith.wf_i64 (by omega)))
  refine ⟨w', hrun, ⟨_, ho', fun j => ?_⟩, hg⟩
  by_cases hj : j = k
  · subst hj
    simp only [if_true]
    exact ⟨Maps.has_put_same ho.isMap (show WideAt.IsKeyLit (Lit.string j) from trivial) _, fun z => Maps.atKey_put_same ho.isMap (show WideAt.IsKeyLit (Lit.string j) from trivial) _ _⟩
  · simp only [if_neg hj]
    have hne : Lit.string j ≠ Lit.string k := fun e => hj (by injection e)
    have := hf j
    cases hfj : f j with
    | none =>
      rw [hfj] at this
      simp only at this ⊢
      rw [Maps.has_put_other hne]; exact this
    | some y =>
      rw [hfj] at this
      simp only at this ⊢
      exact ⟨by rw [Maps.has_put_other hne]; exact this.1, fun z => by rw [Maps.atKey_put_other hne]; exact this.2 z⟩
theorem MapOf.kept {w w' : World} {b n : Nat} {f : List UInt8 → Option Nat} {row : Option Nat} (h : MapOf w b n f) (hg : w.grownBy w' row) (hne : some b ≠ row) : MapOf w' b n f := by
  obtain ⟨D, ho, hf⟩ := h
  exact ⟨D, ho.kept hg hne, hf⟩
theorem MapOf.lt {w : World} {b n : Nat} {f : List UInt8 → Option Nat} (h : MapOf w b n f) : b < w.heap.size := by
  obtain ⟨D, ho, hf⟩ := h
  exact ho.lt
/-- A table: its block g, its map's block b, its rows. -/
def TabAt (w : World) (g b : Nat) (T : List (List (List UInt8) × Nat)) : Prop :=
  Blk w g 108 [.map (some b)] ∧ (∃ f, MapOf w b T.length f ∧ ∀ n, GoodN n → f (encN n) = look T n) ∧ ∀ r ∈ T, r.2 < 16384
end Go.Proofs.Ytlmgdogblbigpaa
/-
  Layer 12 (packed), the plain law of Put: the labels ahead of the first one of the table, and the rows that come into it.
-/
namespace Go.Proofs.Ytlmgdogblbigpaa

/-- The rows of the first k names of n, n without its first label, and so on; p octets stand ahead. -/
def rowsK (at_ : Int) (p : Nat) (n : List (List UInt8)) (k : Nat) : List (List (List UInt8) × Nat) :=
  (List.range k).flatMap fun j => if low at_ (p + lsum (n.take j)) then [(n.drop j, (at_ + (p + lsum (n.take j) : Nat)).toNat)] else []
theorem rowsK_succ (at_ : Int) (p : Nat) (n : List (List UInt8)) (k : Nat) : rowsK at_ p n (k + 1) = rowsK at_ p n k ++ (if low at_ (p + lsum (n.take k)) then [(n.drop k, (at_ + (p + lsum (n.take k) : Nat)).toNat)] else []) := by
  simp [rowsK, List.range_succ, List.flatMap_append]
theorem rowsK_length (at_ : Int) (p : Nat) (n : List (List UInt8)) (k : Nat) : (rowsK at_ p n k).length ≤ k := by
  induction k with
  | zero => exact Nat.le_refl _
  | succ k ih =>
    rw [rowsK_succ, List.length_append]
    split
    · simp; omega
    · simp; omega
theorem rowsK_mem {at_ : Int} {p : Nat} {n : List (List UInt8)} {k : Nat} {r : List (List UInt8) × Nat} (h : r ∈ rowsK at_ p n k) : ∃ j, j < k ∧ r.1 = n.drop j ∧ r.2 < 16384 := by
  induction k with
  | zero => cases h
  | succ k ih =>
    rw [rowsK_succ] at h
    rcases List.mem_append.1 h with h | h
    · obtain ⟨j, hj, h1, h2⟩ := ih h
      exact ⟨j, by omega, h1, h2⟩
    · by_cases hc : low at_ (p + lsum (n.take k)) = true
      · rw [if_pos hc, List.mem_singleton] at h
        have hl := (low_iff _ _).1 hc
        refine ⟨k, by omega, by rw [h], ?_⟩
        rw [h]
        simp only
        omega
      · rw [if_neg hc] at h; cases h
/-- Where the first k names are not in the table. -/
theorem pgo_steps (T : List (List (List UInt8) × Nat)) (at_ : Int) (pre : List UInt8) (n : List (List UInt8)) : ∀ k, k ≤ n.length → (∀ j, j < k → look T (n.drop j) = none) →
    pgo T at_ pre n = ((pgo T at_ (pre ++ encN (n.take k)) (n.drop k)).1, rowsK at_ pre.length n k ++ (pgo T at_ (pre ++ encN (n.take k)) (n.drop k)).2) := by
  intro k
  induction k with
  | zero => intro _ _; simp [rowsK]
  | succ k ih =>
    intro hk h
    rw [ih (by omega) (fun j hj => h j (by omega))]
    have hd : n.drop k = n[k] :: n.drop (k + 1) := List.drop_eq_getElem_cons (by omega)
    have hl := h k (by omega)
    rw [hd] at hl
    rw [hd, pgo_no hl]
    have e1 : pre ++ encN (n.take k) ++ encL n[k] = pre ++ encN (n.take (k + 1)) := by
      rw [List.take_succ_eq_append_getElem (by omega), encN_app, List.append_assoc]
      simp [encN]
    have e2 : (pre ++ encN (n.take k)).length = pre.length + lsum (n.take k) := by rw [List.length_append, encN_length]
    rw [e1, e2, rowsK_succ, hd, List.append_assoc]
theorem pgo_hit (T : List (List (List UInt8) × Nat)) (at_ : Int) (n : List (List UInt8)) (k q : Nat) (hk : k < n.length) (h : ∀ j, j < k → look T (n.drop j) = none) (hq : look T (n.drop k) = some q) :
    pgo T at_ [] n = (encN (n.take k) ++ putB 2 (49152 + q), rowsK at_ 0 n k) := by
  rw [pgo_steps T at_ [] n k (by omega) h]
  have hd : n.drop k = n[k] :: n.drop (k + 1) := List.drop_eq_getElem_cons hk
  rw [hd] at hq ⊢
  rw [pgo_some hq]
  simp
theorem pgo_miss (T : List (List (List UInt8) × Nat)) (at_ : Int) (n : List (List UInt8)) (h : ∀ j, j < n.length → look T (n.drop j) = none) :
    pgo T at_ [] n = (encN n ++ [0], rowsK at_ 0 n n.length) := by
  rw [pgo_steps T at_ [] n n.length (Nat.le_refl _) h]
  simp [pgo]
/-- What Put tells, and the table behind it. -/
def putS (T : List (List (List UInt8) × Nat)) (at_ : Int) (n : List (List UInt8)) : List UInt8 := if checkN n = 0 then (pgo T at_ [] n).1 else []
def putT (T : List (List (List UInt8) × Nat)) (at_ : Int) (n : List (List UInt8)) : List (List (List UInt8) × Nat) := if checkN n = 0 then T ++ (pgo T at_ [] n).2 else T
end Go.Proofs.Ytlmgdogblbigpaa
/-
  Layer 12 (packed): Put.
-/
namespace Go.Proofs.Ytlmgdogblbigpaa
open Go.RowKit Go.Maps
set_option maxRecDepth 100000
set_option linter.unusedVariables false

/-- What Put without a table tells. -/
def encZ (n : List (List UInt8)) : List UInt8 := encN n ++ [0]
theorem TabAt.below {w w' : World} {g b : Nat} {T : List (List (List UInt8) × Nat)} (h : TabAt w g b T) (hb : Below w.heap.size w w') : TabAt w' g b T := by
  obtain ⟨h1, ⟨f, h2, h3⟩, h4⟩ := h
  exact ⟨h1.below hb h1.lt, ⟨f, h2.kept (grown_of_below hb none) (by simp), h3⟩, h4⟩

end Go.Proofs.Ytlmgdogblbigpaa
/-
  Layer 12, the reference: tables as rows; find.
-/
namespace Go.Proofs.Ytlmgdogblbigpaa
open Go.RowKit
set_option maxRecDepth 100000
set_option linter.unusedVariables false

/-- A slice of texts that lies below lo. -/
def TxtL (lo : Nat) (w : World) (v : Value) (l : List (List UInt8)) : Prop :=
  ∃ A c, v = .slice A l.length c ∧ (0 < l.length → ∃ b off, A = some ⟨b, off, none⟩ ∧ b < lo ∧ ∀ i (hi : i < l.length), w.cell? ⟨b, off + i, none⟩ = some (.string (bs l[i])))
theorem TxtL.below {lo : Nat} {w w' : World} {v : Value} {l : List (List UInt8)} (h : TxtL lo w v l) (hb : Below lo w w') : TxtL lo w' v l := by
  obtain ⟨A, c, hv, h⟩ := h
  refine ⟨A, c, hv, fun hp => ?_⟩
  obtain ⟨b, off, hA, hlt, hc⟩ := h hp
  exact ⟨b, off, hA, hlt, fun i hi => (hb.cell hlt).trans (hc i hi)⟩
theorem TxtL.toR {lo : Nat} {w : World} {A : Option Addr} {k c : Nat} {l : List (List UInt8)} (h : TxtL lo w (.slice A k c) l) (hlo : lo ≤ w.heap.size) : k = l.length ∧ TxtR w A l := by
  obtain ⟨A', c', hv, h⟩ := h
  injection hv with h1 h2 h3
  subst h1 h2 h3
  refine ⟨rfl, fun hp => ?_⟩
  obtain ⟨b, off, hA, hlt, hc⟩ := h hp
  exact ⟨b, off, hA, by omega, hc⟩
/-- The cells of rows. -/
def rowCells : List Value → List (List (List UInt8) × Nat) → List Value
  | v :: vs, r :: T => v :: .int .i64 (r.2 : Int) :: rowCells vs T
  | _, _ => []
theorem rowCells_snoc : ∀ (vs : List Value) (T : List (List (List UInt8) × Nat)) (v : Value) (r : List (List UInt8) × Nat), vs.length = T.length → rowCells (vs ++ [v]) (T ++ [r]) = rowCells vs T ++ [v, .int .i64 (r.2 : Int)]
  | [], [], v, r, _ => rfl
  | u :: vs, x :: T, v, r, h => by
    simp only [List.cons_append, rowCells]
    rw [rowCells_snoc vs T v r (by simpa using h)]
theorem rowCells_get : ∀ (vs : List Value) (T : List (List (List UInt8) × Nat)) (i : Nat) (hv : i < vs.length) (ht : i < T.length), vs.length = T.length → (rowCells vs T)[i * 2]? = some vs[i] ∧ (rowCells vs T)[i * 2 + 1]? = some (.int .i64 (T[i].2 : Int))
  | v :: vs, r :: T, 0, _, _, _ => ⟨rfl, rfl⟩
  | v :: vs, r :: T, i + 1, hv, ht, h => by
    have := rowCells_get vs T i (by simpa using hv) (by simpa using ht) (by simpa using h)
    simp only [rowCells, List.getElem_cons_succ]
    rw [show (i + 1) * 2 = i * 2 + 1 + 1 by omega]
    exact this
/-- The reference's table. -/
def RTab (lo : Nat) (w : World) (g : Nat) (T : List (List (List UInt8) × Nat)) : Prop :=
  ∃ (vs : List Value) (v : Value), vs.length = T.length ∧ Blk w g 40 [v] ∧ w.ownsRow lo 116 2 v T.length (rowCells vs T) ∧ (∀ i (hv : i < vs.length) (ht : i < T.length), TxtL lo w vs[i] T[i].1) ∧ (∀ r ∈ T, r.1.length ≤ 254 ∧ r.2 < 16384)
theorem rowInfo : (Try.prog.info? 116).map (fun i => (i.zero, i.size, i.bytes)) = some (some (.agg #[.slice none 0 0, .int .i64 0]), 2, 32) := by kernel_rfl
/-- -1: nowhere. -/
def lookI (T : List (List (List UInt8) × Nat)) (n : List (List UInt8)) : Int := match look T n with
  | some q => q
  | none => -1
theorem look_take {T : List (List (List UInt8) × Nat)} {n : List (List UInt8)} {k : Nat} (hk : k < T.length) (h : look (T.take k) n = none) : (T[k].1 = n → look T n = some T[k].2) ∧ (T[k].1 ≠ n → look (T.take (k + 1)) n = none) := by
  have hT : T = T.take k ++ (T[k] :: T.drop (k + 1)) := by
    rw [← List.drop_eq_getElem_cons hk, List.take_append_drop]
  have h0 : (T.take k).find? (fun r => r.1 == n) = none := by simpa [look] using h
  constructor
  · intro e
    have key : ∀ (r : List (List UInt8) × Nat) (U : List (List (List UInt8) × Nat)), r.1 = n → look (T.take k ++ (r :: U)) n = some r.2 := by
      intro r U hr
      unfold look
      rw [List.find?_append, h0]
      simp [hr]
    have := key T[k] (T.drop (k + 1)) e
    rwa [← hT] at this
  · intro e
    unfold look
    rw [List.take_succ_eq_append_getElem hk, List.find?_append, h0]
    simp [e]

set_option maxHeartbeats 1000000 in
theorem find_tab (lo g : Nat) (T : List (List (List UInt8) × Nat)) (A : Option Addr) (c : Nat) (n : List (List UInt8)) (w : World) (hT : RTab lo w g T) (hlo : lo ≤ w.heap.size) (hA : TxtR w A n) (hn : 0 < n.length) (hnl : n.length ≤ 254) (hTl : T.length ≤ 1000000) :
    Calls Try.prog 64 #[.pointer (some ⟨g, 0, none⟩), .slice A n.length c] w (RetB (.int .i64 (lookI T n)) w) := by
  obtain ⟨vs, v, hvl, hb, hown, htx, hlow⟩ := hT
  obtain ⟨Av, cv, hv⟩ := own_form hown
  subst hv
  have HTX := Lib.hid htx
  have HLOW := Lib.hid hlow
  have HVL := Lib.hid hvl
  clear htx hlow hvl
  have hn0 : ((n.length : Int) == 0) = false := by rw [beq_eq_false_iff_ne]; omega
  go_enter Try.func64, Try.ntmps64
  go_wp2_with fail
  go_loopw [5] (fun i wr => ∃ k : Nat, k ≤ T.length ∧ i = .int .i64 k ∧ Hid (look (T.take k) n = none) ∧ Below w.heap.size w wr) (fun i _ => T.length - (intOf i).toNat)
  case atStart => exact ⟨0, Nat.zero_le _, rfl, Lib.hid rfl, Below.refl _ _⟩
  case round =>
    obtain ⟨k, hk, rfl, HN, hB⟩ := hrel
    have tc := (hb.below hB hb.lt).cell_ 0 rfl
    by_cases hlt : k < T.length
    · have hlt' : (k : Int) < T.length := by omega
      have hvk : k < vs.length := by rw [HVL.out]; exact hlt
      obtain ⟨G, hAv⟩ : ∃ G, Av = some ⟨G, 0, none⟩ := by
        rcases hown.2 with ⟨_, h0⟩ | ⟨G, cap, cur, hv, _⟩
        · omega
        · exact ⟨G, by injection hv⟩
      subst hAv
      have hGl := (hown.lt G rfl).2
      obtain ⟨g1, g2⟩ := rowCells_get vs T k hvk hlt HVL.out
      have r1 := (hB.cell (p := ⟨G, k * 2, none⟩) hGl).trans ((hown.cellAt (k * 2) (by omega)).trans g1)
      have r2 := (hB.cell (p := ⟨G, k * 2 + 1, none⟩) hGl).trans ((hown.cellAt (k * 2 + 1) (by omega)).trans g2)
      have hL1 := HTX.out k hvk hlt
      obtain ⟨A1, c1, hv1, _⟩ := id hL1
      rw [hv1] at r1 hL1
      have hR1 := ((hL1.below (hB.mono hlo)).toR (Nat.le_trans hlo hB.size)).2
      have hRn := hA.below hB
      have hTk := (HLOW.out T[k] (List.getElem_mem hlt)).1
      have hLT := look_take hlt HN.out
      have HLT := Lib.hid hLT
      clear g1 g2 hv1 hL1 hLT
      obtain ⟨r, hr⟩ : ∃ r, r = T[k] := ⟨_, rfl⟩
      rw [← hr] at r1 r2 hR1 hTk HLT
      clear hr
      by_cases he : r.1 = n
      · have hlook := HLT.out.1 he
        have hLI : lookI T n = r.2 := by unfold lookI; rw [hlook]
        have HLI := Lib.hid hLI
        have HE := Lib.hid he
        clear hlook hLI he
        go_wp2_with fail
        refine (exact_any A1 A r.1 n _ _ _ hR1 hRn (by omega) (by omega)).mono ?_
        rw [decide_eq_true HE.out]
        rintro _ w2 ⟨rfl, hB2⟩
        have hB2' := below_then hB hB.size hB2
        have tc2 := (hb.below hB2' hb.lt).cell_ 0 rfl
        have r22 := (hB2.cell (p := ⟨G, k * 2 + 1, none⟩) (Nat.lt_of_lt_of_le hGl hB.size)).trans r2
        clear tc r1 r2 hB2 hR1 hRn
        go_wp2_with fail
        go_ret
        exact RetB.mk (ret_int HLI.out.symm) hB2'
      · have hno := HLT.out.2 he
        have HNO := Lib.hid hno
        have HE := Lib.hid he
        clear hno he
        go_wp2_with fail
        refine (exact_any A1 A r.1 n _ _ _ hR1 hRn (by omega) (by omega)).mono ?_
        rw [decide_eq_false HE.out]
        rintro _ w2 ⟨rfl, hB2⟩
        have hB2' := below_then hB hB.size hB2
        clear tc r1 r2 hB2 hR1 hRn
        go_wp2_with fail
        go_roundw
        case rel => exact ⟨k + 1, by omega, by go_num, HNO, hB2'⟩
        case measure => simp [intOf]; omega
    · have hlt' : ¬ (k : Int) < T.length := by omega
      have hLI : lookI T n = -1 := by
        have := HN.out
        rw [List.take_of_length_le (by omega)] at this
        unfold lookI; rw [this]
      have HLI := Lib.hid hLI
      clear hLI
      go_wp2_with fail
      go_ret
      exact RetB.mk (ret_int HLI.out.symm) hB
theorem find_nil (A : Option Addr) (c : Nat) (n : List (List UInt8)) (w : World) :
    Calls Try.prog 64 #[.pointer none, .slice A n.length c] w (Ret (.int .i64 (-1)) w) := by
  go_enter Try.func64, Try.ntmps64
  go_wp2_with fail
  go_ret
  exact Ret.mk rfl rfl
end Go.Proofs.Ytlmgdogblbigpaa
