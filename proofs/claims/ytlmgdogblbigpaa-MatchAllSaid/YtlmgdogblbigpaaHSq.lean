/-
  Layer 13 (rdata): has, an SOA; has of any record.
-/
import Derived.Test.YtlmgdogblbigpaaHRq
namespace Go.Proofs.Ytlmgdogblbigpaa
open Go.RowKit
set_option maxRecDepth 100000
set_option linter.unusedVariables false
set_option linter.unusedSimpArgs false

theorem NmR.nil (w : World) : NmR w none 0 [] := ⟨fun h => absurd h (by simp), by simp, by simp, by simp⟩
theorem kindR_cases (ty cl : Int) : kindR ty cl = 1 ∨ kindR ty cl = 28 ∨ (kindR ty cl = 5 ∨ kindR ty cl = 12) ∨ kindR ty cl = 33 ∨ kindR ty cl = 6 ∨ kindR ty cl = 0 := by
  unfold kindR
  by_cases h : cl = 1 ∧ (ty = 1 ∨ ty = 28 ∨ ty = 5 ∨ ty = 12 ∨ ty = 33 ∨ ty = 6)
  · rw [if_pos h]; obtain ⟨_, h | h | h | h | h | h⟩ := h <;> simp [h]
  · rw [if_neg h]; simp
end Go.Proofs.Ytlmgdogblbigpaa
/-
  Layer 13 (rdata): Check.
-/
namespace Go.Proofs.Ytlmgdogblbigpaa
open Go.RowKit
set_option maxRecDepth 100000
set_option linter.unusedVariables false
set_option linter.unusedSimpArgs false

theorem wpList_ldBg {P : Program} {ops : Array Oper} {rest : List Oper} {op : Oper} {a : Act} {w : World} {Q : Exit → Act → World → Prop} (hw : Region.wanted op (yielded ops a.tmps) = true) (ty : TypeId) (x : Operand) (ho : op.op = .load ty x)
    (g o : Nat) (hx : a.eval x = .pointer (some ⟨g, o, none⟩)) {t : TypeId} {L : List Value} (hb : Blk w g t L) (n : Nat) (hn : o + n ≤ L.length) (d : TypeDesc)
    (hu : P.underlying ty = some d) (hd : d.isRow = true) (hi : (P.info? ty).map (·.size) = some n) (sub : List Value) (hsub : (L.drop o).take n = sub)
    (h : wpList P ops Q rest (a.put op.dst (.agg sub.toArray)) w) : wpList P ops Q (op :: rest) a w := by
  have hl : sub.length = n := by rw [← hsub]; simp; omega
  refine wpList_step fun K hK => ?_
  rw [if_pos hw]
  exact wp_load_mid ty x ho g o hx sub d (hsub ▸ hb.range o n hn) hu hd (by rw [hl]; exact hi) (hK _ _ h)
end Go.Proofs.Ytlmgdogblbigpaa
/-
  Layer 13 (rdata): a table, or none; what a record's data are.
-/
namespace Go.Proofs.Ytlmgdogblbigpaa
open Go.RowKit
set_option maxRecDepth 100000
set_option linter.unusedVariables false

abbrev Tab := List (List (List UInt8) × Nat)
/-- A pointer to a table that lies from lo on, or none. -/
def TabO (lo : Nat) (w : World) (p : Option Addr) : Option Tab → Prop
  | none => p = none
  | some T => ∃ g b, p = some ⟨g, 0, none⟩ ∧ lo ≤ g ∧ lo ≤ b ∧ TabAt w g b T
def putSO (T : Option Tab) (at_ : Int) (n : List (List UInt8)) : List UInt8 := match T with
  | none => putZ n
  | some T => putS T at_ n
def putTO (T : Option Tab) (at_ : Int) (n : List (List UInt8)) : Option Tab := T.map fun T => putT T at_ n
def fewO (T : Option Tab) (k : Nat) : Prop := ∀ T', T = some T' → T'.length ≤ k
theorem fewO.put {T : Option Tab} {k : Nat} (h : fewO T k) (at_ : Int) (n : List (List UInt8)) : fewO (putTO T at_ n) (k + 254) := by
  intro T' hT'
  cases T with
  | none => cases hT'
  | some T =>
    obtain rfl : putT T at_ n = T' := by simpa [putTO] using hT'
    have := h T rfl; have := putT_length T at_ n; omega
theorem TabO.below {lo : Nat} {w w' : World} {p : Option Addr} {T : Option Tab} (h : TabO lo w p T) (hb : Below w.heap.size w w') : TabO lo w' p T := by
  cases T with
  | none => exact h
  | some T => obtain ⟨g, b, h1, h2, h3, h4⟩ := h; exact ⟨g, b, h1, h2, h3, h4.below hb⟩
/-- What lies below lo is as it was; cells are as they were wherever they lie. -/
def Keep (lo : Nat) (w w' : World) : Prop := Below lo w w' ∧ ∀ (g : Nat) (t : TypeId) (cs : Array Value) (fz : Nat × Nat), w.heap[g]? = some (.cells cs t fz) → w'.heap[g]? = some (.cells cs t fz)
theorem Keep.blk {lo : Nat} {w w' : World} (h : Keep lo w w') {g : Nat} {t : TypeId} {cs : List Value} (hb : Blk w g t cs) : Blk w' g t cs := h.2 g t cs.toArray (0, 0) hb
theorem Keep.trans {lo : Nat} {w w1 w2 : World} (h : Keep lo w w1) (h' : Keep lo w1 w2) : Keep lo w w2 := ⟨h.1.trans h'.1, fun g t cs fz hb => h'.2 g t cs fz (h.2 g t cs fz hb)⟩
theorem heap_lt {w : World} {g : Nat} {o : Obj} (h : w.heap[g]? = some o) : g < w.heap.size := (Array.getElem?_eq_some_iff.1 h).1
theorem Keep.old {lo : Nat} {w w1 : World} (h : Below w.heap.size w w1) (hlo : lo ≤ w.heap.size) : Keep lo w w1 := ⟨h.mono hlo, fun g t cs fz hb => (h.block g (heap_lt hb)).trans hb⟩
/-- The octets of a record that may be; the table behind it. -/
def dataR (T : Option Tab) (at_ : Int) (r : RR) : List UInt8 :=
  if kindR r.ty r.cl = 1 then r.ad.ip.take 4
  else if kindR r.ty r.cl = 28 then r.ad.ip
  else if kindR r.ty r.cl = 5 ∨ kindR r.ty r.cl = 12 then putSO T at_ r.tg
  else if kindR r.ty r.cl = 33 then putB 2 r.pri ++ putB 2 r.we ++ putB 2 r.po ++ putZ r.tg
  else if kindR r.ty r.cl = 6 then putSO T at_ r.tg ++ putSO (putTO T at_ r.tg) (at_ + (putSO T at_ r.tg).length) r.ml ++ r.nums.flatMap (putB 4)
  else r.raw
def tabR (T : Option Tab) (at_ : Int) (r : RR) : Option Tab :=
  if kindR r.ty r.cl = 5 ∨ kindR r.ty r.cl = 12 then putTO T at_ r.tg
  else if kindR r.ty r.cl = 6 then putTO (putTO T at_ r.tg) (at_ + (putSO T at_ r.tg).length) r.ml
  else T
theorem hasE_ok {r : RR} (h : checkR r = 0) : checkN r.name = 0 ∧ hasE r = 0 := by
  unfold checkR at h
  by_cases h1 : checkN r.name = 0
  · refine ⟨h1, ?_⟩
    rw [if_neg (by simp [h1])] at h
    split at h
    · omega
    · by_cases h2 : hasE r = 0
      · exact h2
      · rw [if_pos h2] at h; exact h
  · rw [if_pos h1] at h; exact absurd h h1
end Go.Proofs.Ytlmgdogblbigpaa
/-
  Layer 13 (rdata): Put, of addresses, names, and what is plain.
-/
namespace Go.Proofs.Ytlmgdogblbigpaa
open Go.RowKit
set_option maxRecDepth 100000
set_option linter.unusedVariables false
set_option linter.unusedSimpArgs false

theorem rrC_ip {vn vt vm : Value} {r : RR} (h : r.wf) (j : Nat) (hj : j < r.ad.ip.length) : (rrC vn vt vm r)[5 + j]? = some (.int .u8 (r.ad.ip[j].toNat : Int)) := by
  have h16 := h.1
  have e : ((rrC vn vt vm r).drop 4).take 18 = r.ad.cells := rrC_ad h
  have e1 : (((rrC vn vt vm r).drop 4).take 18)[1 + j]? = (rrC vn vt vm r)[5 + j]? := by
    rw [List.getElem?_take_of_lt (by omega), List.getElem?_drop]; congr 1; omega
  rw [← e1, e, Adr.cells, Nat.add_comm 1 j, List.getElem?_cons_succ, List.getElem?_append_left (by rw [octs_length]; exact hj), octs_get _ _ hj]
/-- Octets in a block, as a text. -/
theorem conv_at {w : World} {g o : Nat} {t : TypeId} {L : List Value} (h : Blk w g t L) (q : List UInt8) (cap : Nat) (hq : ∀ j (hj : j < q.length), L[o + j]? = some (.int .u8 (q[j].toNat : Int))) :
    (convert 94 9 (.slice (some ⟨g, o, none⟩) q.length cap)).run Try.prog w = .ok (.string (bs q)) w :=
  run_convert_bytes_back w 94 9 5 ⟨g, o, none⟩ cap q Try.underlying94 Try.underlying5 Try.underlying9 fun j hj => by
    have h1 := h.cell_ (o + j) (hq j hj)
    cases j with
    | zero => exact h1
    | succ j => exact h1
end Go.Proofs.Ytlmgdogblbigpaa
/-
  Layer 13 (rdata): Put, of an SRV.
-/
namespace Go.Proofs.Ytlmgdogblbigpaa
open Go.RowKit
set_option maxRecDepth 100000
set_option linter.unusedVariables false
set_option linter.unusedSimpArgs false

end Go.Proofs.Ytlmgdogblbigpaa
/-
  Layer 13 (rdata): Put, of an SOA; of any record.
-/
namespace Go.Proofs.Ytlmgdogblbigpaa
open Go.RowKit
set_option maxRecDepth 100000
set_option linter.unusedVariables false
set_option linter.unusedSimpArgs false

theorem pgo_len (T : Tab) (at_ : Int) : ∀ (n : List (List UInt8)) (pre : List UInt8), (pgo T at_ pre n).1.length ≤ pre.length + lsum n + 2
  | [], pre => by simp [pgo, lsum]
  | l :: n, pre => by
    cases h : look T (l :: n) with
    | some q => rw [pgo_some h]; simp [putB_length]
    | none =>
      rw [pgo_no h]
      have ih := pgo_len T at_ n (pre ++ encL l)
      rw [List.length_append, encL_length] at ih
      simp only [lsum]
      omega
theorem putSO_len (T : Option Tab) (at_ : Int) (n : List (List UInt8)) : (putSO T at_ n).length ≤ 300 := by
  cases T with
  | none =>
    unfold putSO putZ encZ
    dsimp only
    split
    · next h => have := (checkN_ok h).2; simp [encN_length]; omega
    · simp
  | some T =>
    unfold putSO putS
    dsimp only
    split
    · next h => have := (checkN_ok h).2; have := pgo_len T at_ n []; simp at this; omega
    · simp
/-- What Put tells of any record. -/
def rputS (T : Option Tab) (at_ : Int) (r : RR) : List UInt8 := if checkR r = 0 then dataR T at_ r else []
def rputT (T : Option Tab) (at_ : Int) (r : RR) : Option Tab := if checkR r = 0 then tabR T at_ r else T
end Go.Proofs.Ytlmgdogblbigpaa
