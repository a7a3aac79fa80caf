/-
  Records as cells; what is wrong with a record, plainly.
-/
import Derived.Test.YtlmgdogblbigpaaGCq
import Derived.Test.YtlmgdogblbigpaaGBq
import Derived.Test.YtlmgdogblbigpaaGDq
import Derived.Test.YtlmgdogblbigpaaGJq
namespace Go.Proofs.Ytlmgdogblbigpaa
open Go.RowKit
set_option maxRecDepth 100000
set_option linter.unusedVariables false

/-- A record. -/
structure RR where
  name : List (List UInt8)
  ty : Int
  cl : Int
  ttl : Int
  ad : Adr
  tg : List (List UInt8)
  ml : List (List UInt8)
  pri : Int
  we : Int
  po : Int
  nums : List Int
  raw : List UInt8
deriving DecidableEq
def ints64 (l : List Int) : List Value := l.map (Value.int .i64)
/-- Its cells, the names' slices given. -/
def rrC (vn vt vm : Value) (r : RR) : List Value := vn :: .int .i64 r.ty :: .int .i64 r.cl :: .int .i64 r.ttl :: (r.ad.cells ++ (vt :: vm :: .int .i64 r.pri :: .int .i64 r.we :: .int .i64 r.po :: (ints64 r.nums ++ [.string (bs r.raw)])))
def RR.wf (r : RR) : Prop := r.ad.ip.length = 16 ∧ r.nums.length = 5
section
variable {vn vt vm : Value} {r : RR}
theorem rrC_len (h : r.wf) : (rrC vn vt vm r).length = 33 := by simp [rrC, r.ad.cells_len h.1, ints64, h.2]
theorem rrC_0 : (rrC vn vt vm r)[0]? = some vn := rfl
theorem rrC_1 : (rrC vn vt vm r)[1]? = some (.int .i64 r.ty) := rfl
theorem rrC_2 : (rrC vn vt vm r)[2]? = some (.int .i64 r.cl) := rfl
theorem rrC_3 : (rrC vn vt vm r)[3]? = some (.int .i64 r.ttl) := rfl
theorem rrC_ad (h : r.wf) : ((rrC vn vt vm r).drop 4).take 18 = r.ad.cells := by
  simp only [rrC, List.drop_succ_cons, List.drop_zero]
  exact List.take_left' (r.ad.cells_len h.1)
theorem rrC_tail (h : r.wf) (k : Nat) : (rrC vn vt vm r)[22 + k]? = (vt :: vm :: .int .i64 r.pri :: .int .i64 r.we :: .int .i64 r.po :: (ints64 r.nums ++ [.string (bs r.raw)]))[k]? := by
  have e : rrC vn vt vm r = (vn :: .int .i64 r.ty :: .int .i64 r.cl :: .int .i64 r.ttl :: r.ad.cells) ++ (vt :: vm :: .int .i64 r.pri :: .int .i64 r.we :: .int .i64 r.po :: (ints64 r.nums ++ [.string (bs r.raw)])) := by simp [rrC]
  have hl : (vn :: .int .i64 r.ty :: .int .i64 r.cl :: .int .i64 r.ttl :: r.ad.cells).length = 22 := by simp [r.ad.cells_len h.1]
  rw [e, List.getElem?_append_right (by omega), hl, Nat.add_sub_cancel_left]
theorem rrC_22 (h : r.wf) : (rrC vn vt vm r)[22]? = some vt := rrC_tail h 0
theorem rrC_23 (h : r.wf) : (rrC vn vt vm r)[23]? = some vm := rrC_tail h 1
theorem rrC_24 (h : r.wf) : (rrC vn vt vm r)[24]? = some (.int .i64 r.pri) := rrC_tail h 2
theorem rrC_25 (h : r.wf) : (rrC vn vt vm r)[25]? = some (.int .i64 r.we) := rrC_tail h 3
theorem rrC_26 (h : r.wf) : (rrC vn vt vm r)[26]? = some (.int .i64 r.po) := rrC_tail h 4
theorem rrC_num (h : r.wf) (i : Nat) (hi : i < 5) : (rrC vn vt vm r)[27 + i]? = some (.int .i64 (r.nums.getD i 0)) := by
  have := rrC_tail (vn := vn) (vt := vt) (vm := vm) h (5 + i)
  rw [show 22 + (5 + i) = 27 + i by omega] at this
  rw [this, show 5 + i = i + 1 + 1 + 1 + 1 + 1 by omega]
  simp only [List.getElem?_cons_succ]
  rw [List.getElem?_append_left (by simp [ints64, h.2]; omega)]
  simp [ints64, List.getD, h.2, hi]
theorem rrC_32 (h : r.wf) : (rrC vn vt vm r)[32]? = some (.string (bs r.raw)) := by
  have := rrC_tail (vn := vn) (vt := vt) (vm := vm) h 10
  rw [this]
  simp [ints64, h.2]
theorem rrC_nums (h : r.wf) : ((rrC vn vt vm r).drop 27).take 5 = ints64 r.nums := by
  have e : rrC vn vt vm r = (vn :: .int .i64 r.ty :: .int .i64 r.cl :: .int .i64 r.ttl :: (r.ad.cells ++ [vt, vm, .int .i64 r.pri, .int .i64 r.we, .int .i64 r.po])) ++ (ints64 r.nums ++ [.string (bs r.raw)]) := by simp [rrC]
  have hl : (vn :: .int .i64 r.ty :: .int .i64 r.cl :: .int .i64 r.ttl :: (r.ad.cells ++ [vt, vm, .int .i64 r.pri, .int .i64 r.we, .int .i64 r.po])).length = 27 := by simp [r.ad.cells_len h.1]
  rw [e, ← hl, List.drop_left]
  exact List.take_left' (by simp [ints64, h.2])
theorem rrC_one (hn : vn.oneCell' = true) (ht : vt.oneCell' = true) (hm : vm.oneCell' = true) : ∀ v ∈ rrC vn vt vm r, v.oneCell' = true := by
  intro v hv
  simp only [rrC, List.mem_cons, List.mem_append] at hv
  rcases hv with rfl | rfl | rfl | rfl | hv | rfl | rfl | rfl | rfl | rfl | hv | hv
  · exact hn
  · rfl
  · rfl
  · rfl
  · exact r.ad.cells_one v hv
  · exact ht
  · exact hm
  · rfl
  · rfl
  · rfl
  · obtain ⟨b, _, rfl⟩ := List.mem_map.1 hv; rfl
  · rcases hv with rfl | hv
    · rfl
    · cases hv
end
/-- The cells read as the record. -/
def RRis (w : World) (cs : List Value) (r : RR) : Prop :=
  ∃ An cn At ct Am cm, cs = rrC (.slice An r.name.length cn) (.slice At r.tg.length ct) (.slice Am r.ml.length cm) r ∧ r.wf ∧ NmR w An cn r.name ∧ NmR w At ct r.tg ∧ NmR w Am cm r.ml ∧ r.raw.length ≤ 140737488355328
theorem RRis.below {w w' : World} {cs : List Value} {r : RR} (h : RRis w cs r) (hb : Below w.heap.size w w') : RRis w' cs r := by
  obtain ⟨An, cn, At, ct, Am, cm, h1, h2, h3, h4, h5, h6⟩ := h
  exact ⟨An, cn, At, ct, Am, cm, h1, h2, h3.below hb, h4.below hb, h5.below hb, h6⟩
theorem rrInfo : (Try.prog.info? 86).map (·.size) = some 33 := by kernel_rfl
theorem numsInfo : (Try.prog.info? 84).map (·.size) = some 5 := by kernel_rfl

/-- The type of a record that has more than Raw; 0. -/
def kindR (ty cl : Int) : Int := if cl = 1 ∧ (ty = 1 ∨ ty = 28 ∨ ty = 5 ∨ ty = 12 ∨ ty = 33 ∨ ty = 6) then ty else 0
def inB (most n : Int) : Bool := decide (0 ≤ n) && decide (n ≤ most)
/-- What is wrong with what a record has. -/
def hasE (r : RR) : Int :=
  if kindR r.ty r.cl = 1 then (if r.ad.check ≠ 0 ∨ r.ad.fam ≠ 4 ∨ r.ad.zone ≠ 0 then 10 else 0)
  else if kindR r.ty r.cl = 28 then (if r.ad.check ≠ 0 ∨ r.ad.fam ≠ 6 ∨ r.ad.zone ≠ 0 then 10 else 0)
  else if kindR r.ty r.cl = 5 ∨ kindR r.ty r.cl = 12 then checkN r.tg
  else if kindR r.ty r.cl = 33 then (if ([r.pri, r.we, r.po].all (inB 65535)) then checkN r.tg else 4)
  else if kindR r.ty r.cl = 6 then (if checkN r.tg ≠ 0 then checkN r.tg else if checkN r.ml ≠ 0 then checkN r.ml else if r.nums.all (inB 4294967295) then 0 else 4)
  else if 65535 < r.raw.length then 3 else 0
/-- The record without that. -/
def clearR (r : RR) : RR :=
  if kindR r.ty r.cl = 1 ∨ kindR r.ty r.cl = 28 then { r with ad := Adr.zero }
  else if kindR r.ty r.cl = 5 ∨ kindR r.ty r.cl = 12 then { r with tg := [] }
  else if kindR r.ty r.cl = 33 then { r with pri := 0, we := 0, po := 0, tg := [] }
  else if kindR r.ty r.cl = 6 then { r with tg := [], ml := [], nums := [0, 0, 0, 0, 0] }
  else { r with raw := [] }
def bareB (r : RR) : Bool := decide (r.ad = Adr.zero) && decide (r.tg = []) && decide (r.ml = []) && decide (r.pri = 0) && decide (r.we = 0) && decide (r.po = 0) && decide (r.nums = [0, 0, 0, 0, 0]) && decide (r.raw = [])
/-- What is wrong with a record. -/
def checkR (r : RR) : Int :=
  if checkN r.name ≠ 0 then checkN r.name
  else if ¬ ([r.ty, r.cl].all (inB 65535)) ∨ ¬ inB 4294967295 r.ttl then 4
  else if hasE r ≠ 0 then hasE r
  else if bareB (clearR r) then 0 else 5
end Go.Proofs.Ytlmgdogblbigpaa
/-
  Layer 13 (rdata): the small ones: kindOf, within, names, address; the reference's kind, out.
-/
namespace Go.Proofs.Ytlmgdogblbigpaa
open Go.RowKit
set_option maxRecDepth 100000
set_option linter.unusedVariables false

theorem kindOf_any (ty cl : Int) (w : World) : Calls Try.prog 91 #[.int .i64 ty, .int .i64 cl] w (Ret (.int .i64 (kindR ty cl)) w) := by
  by_cases h1 : cl = 1
  · subst h1
    by_cases hk : ty = 1 ∨ ty = 28 ∨ ty = 5 ∨ ty = 12 ∨ ty = 33 ∨ ty = 6
    · have hr : kindR ty 1 = ty := by unfold kindR; rw [if_pos ⟨rfl, hk⟩]
      rw [hr]
      clear hr
      rcases hk with rfl | rfl | rfl | rfl | rfl | rfl
      all_goals
        go_enter Try.func91, Try.ntmps91
        go_wp2
        go_ret
        exact Ret.mk rfl rfl
    · have hr : kindR ty 1 = 0 := by unfold kindR; rw [if_neg (fun h => hk h.2)]
      rw [hr]
      have e1 : (ty == 1) = false := by simp; omega
      have e2 : (ty == 28) = false := by simp; omega
      have e3 : (ty == 5) = false := by simp; omega
      have e4 : (ty == 12) = false := by simp; omega
      have e5 : (ty == 33) = false := by simp; omega
      have e6 : (ty == 6) = false := by simp; omega
      clear hk hr
      go_enter Try.func91, Try.ntmps91
      go_wp2
      go_ret
      exact Ret.mk rfl rfl
  · have hr : kindR ty cl = 0 := by unfold kindR; rw [if_neg (fun h => h1 h.1)]
    rw [hr]
    have e1 : (cl != 1) = true := by simpa using h1
    clear h1 hr
    go_enter Try.func91, Try.ntmps91
    go_wp2
    go_ret
    exact Ret.mk rfl rfl
theorem refKind13_any (ty cl : Int) (w : World) : Calls Try.prog 112 #[.int .i64 ty, .int .i64 cl] w (Ret (.int .i64 (kindR ty cl)) w) := by
  by_cases h1 : cl = 1
  · subst h1
    by_cases hk : ty = 1 ∨ ty = 28 ∨ ty = 5 ∨ ty = 12 ∨ ty = 33 ∨ ty = 6
    · have hr : kindR ty 1 = ty := by unfold kindR; rw [if_pos ⟨rfl, hk⟩]
      rw [hr]
      clear hr
      rcases hk with rfl | rfl | rfl | rfl | rfl | rfl
      all_goals
        go_enter Try.func112, Try.ntmps112
        go_wp2
        go_ret
        exact Ret.mk rfl rfl
    · have hr : kindR ty 1 = 0 := by unfold kindR; rw [if_neg (fun h => hk h.2)]
      rw [hr]
      have e1 : (ty == 1) = false := by simp; omega
      have e2 : (ty == 28) = false := by simp; omega
      have e3 : (ty == 5) = false := by simp; omega
      have e4 : (ty == 12) = false := by simp; omega
      have e5 : (ty == 33) = false := by simp; omega
      have e6 : (ty == 6) = false := by simp; omega
      clear hk hr
      go_enter Try.func112, Try.ntmps112
      go_wp2
      go_ret
      exact Ret.mk rfl rfl
  · have hr : kindR ty cl = 0 := by unfold kindR; rw [if_neg (fun h => h1 h.1)]
    rw [hr]
    have e1 : (cl == 1) = false := by simpa using h1
    clear h1 hr
    go_enter Try.func112, Try.ntmps112
    go_wp2
    go_ret
    exact Ret.mk rfl rfl
theorem inB_iff (m n : Int) : inB m n = true ↔ 0 ≤ n ∧ n ≤ m := by simp [inB]
theorem inB_no {m n : Int} (h : inB m n = false) : n < 0 ∨ m < n := by simp [inB] at h; omega
end Go.Proofs.Ytlmgdogblbigpaa
/-
  Layer 13 (rdata): has.
-/
namespace Go.Proofs.Ytlmgdogblbigpaa
open Go.RowKit
set_option maxRecDepth 100000
set_option linter.unusedVariables false
set_option linter.unusedSimpArgs false

def nilS : Value := .slice none 0 0
def RR.zero : RR := ⟨[], 0, 0, 0, Adr.zero, [], [], 0, 0, 0, [0, 0, 0, 0, 0], []⟩
def rrZ : List Value := rrC nilS nilS nilS RR.zero
theorem rrZ_len : rrZ.length = 33 := rrC_len ⟨rfl, rfl⟩
section
variable {vn vt vm : Value} {r : RR}
theorem rrC_setAd (h : r.wf) (a : Adr) : (rrC vn vt vm r).take 4 ++ a.cells ++ (rrC vn vt vm r).drop 22 = rrC vn vt vm { r with ad := a } := by
  have e : (rrC vn vt vm r).drop 22 = (vt :: vm :: .int .i64 r.pri :: .int .i64 r.we :: .int .i64 r.po :: (ints64 r.nums ++ [.string (bs r.raw)])) := by
    have e2 : rrC vn vt vm r = (vn :: .int .i64 r.ty :: .int .i64 r.cl :: .int .i64 r.ttl :: r.ad.cells) ++ (vt :: vm :: .int .i64 r.pri :: .int .i64 r.we :: .int .i64 r.po :: (ints64 r.nums ++ [.string (bs r.raw)])) := by simp [rrC]
    have hl : (vn :: .int .i64 r.ty :: .int .i64 r.cl :: .int .i64 r.ttl :: r.ad.cells).length = 22 := by simp [r.ad.cells_len h.1]
    rw [e2, ← hl, List.drop_left]
  rw [e]
  simp [rrC]
end
/-- What the whole of a new block is. -/
theorem whole_of {L sub : List Value} (h : L.length = sub.length) : L.take 0 ++ sub ++ L.drop (0 + sub.length) = sub := by
  rw [List.take_zero, List.nil_append, Nat.zero_add, List.drop_of_length_le (by omega), List.append_nil]
end Go.Proofs.Ytlmgdogblbigpaa
/-
  Layer 13 (rdata): has, names and numbers.
-/
namespace Go.Proofs.Ytlmgdogblbigpaa
open Go.RowKit
set_option maxRecDepth 100000
set_option linter.unusedVariables false
set_option linter.unusedSimpArgs false

section
variable {vn vt vm : Value} {r : RR}
theorem rrC_setT (h : r.wf) (k : Nat) (v : Value) : (rrC vn vt vm r).set (22 + k) v = (vn :: .int .i64 r.ty :: .int .i64 r.cl :: .int .i64 r.ttl :: r.ad.cells) ++ (vt :: vm :: .int .i64 r.pri :: .int .i64 r.we :: .int .i64 r.po :: (ints64 r.nums ++ [.string (bs r.raw)])).set k v := by
  have e2 : rrC vn vt vm r = (vn :: .int .i64 r.ty :: .int .i64 r.cl :: .int .i64 r.ttl :: r.ad.cells) ++ (vt :: vm :: .int .i64 r.pri :: .int .i64 r.we :: .int .i64 r.po :: (ints64 r.nums ++ [.string (bs r.raw)])) := by simp [rrC]
  have hl : (vn :: .int .i64 r.ty :: .int .i64 r.cl :: .int .i64 r.ttl :: r.ad.cells).length = 22 := by simp [r.ad.cells_len h.1]
  rw [e2, List.set_append_right _ _ (by omega), hl, Nat.add_sub_cancel_left]
theorem rrC_setTg (h : r.wf) (v : Value) : (rrC vn vt vm r).set 22 v = rrC vn v vm r := by rw [rrC_setT h 0]; simp [rrC]
theorem rrC_setMl (h : r.wf) (v : Value) : (rrC vn vt vm r).set 23 v = rrC vn vt v r := by rw [rrC_setT h 1]; simp [rrC]
theorem rrC_setPri (h : r.wf) (x : Int) : (rrC vn vt vm r).set 24 (.int .i64 x) = rrC vn vt vm { r with pri := x } := by rw [rrC_setT h 2]; simp [rrC]
theorem rrC_setWe (h : r.wf) (x : Int) : (rrC vn vt vm r).set 25 (.int .i64 x) = rrC vn vt vm { r with we := x } := by rw [rrC_setT h 3]; simp [rrC]
theorem rrC_setPo (h : r.wf) (x : Int) : (rrC vn vt vm r).set 26 (.int .i64 x) = rrC vn vt vm { r with po := x } := by rw [rrC_setT h 4]; simp [rrC]
theorem rrC_setRaw (h : r.wf) (x : List UInt8) : (rrC vn vt vm r).set 32 (.string (bs x)) = rrC vn vt vm { r with raw := x } := by
  rw [rrC_setT h 10]
  have e : (ints64 r.nums ++ [Value.string (bs r.raw)]).set 5 (.string (bs x)) = ints64 r.nums ++ [.string (bs x)] := by
    rw [List.set_append_right _ _ (by simp [ints64, h.2])]; simp [ints64, h.2]
  simp [rrC, e]
theorem rrC_setNums (h : r.wf) (l : List Int) (hl : l.length = 5) : (rrC vn vt vm r).take 27 ++ ints64 l ++ (rrC vn vt vm r).drop 32 = rrC vn vt vm { r with nums := l } := by
  have e : rrC vn vt vm r = (vn :: .int .i64 r.ty :: .int .i64 r.cl :: .int .i64 r.ttl :: (r.ad.cells ++ [vt, vm, .int .i64 r.pri, .int .i64 r.we, .int .i64 r.po])) ++ (ints64 r.nums ++ [.string (bs r.raw)]) := by simp [rrC]
  have hl : (vn :: .int .i64 r.ty :: .int .i64 r.cl :: .int .i64 r.ttl :: (r.ad.cells ++ [vt, vm, .int .i64 r.pri, .int .i64 r.we, .int .i64 r.po])).length = 27 := by simp [r.ad.cells_len h.1]
  have e1 : (rrC vn vt vm r).take 27 = (vn :: .int .i64 r.ty :: .int .i64 r.cl :: .int .i64 r.ttl :: (r.ad.cells ++ [vt, vm, .int .i64 r.pri, .int .i64 r.we, .int .i64 r.po])) := by rw [e, ← hl, List.take_left]
  have e2 : (rrC vn vt vm r).drop 32 = [.string (bs r.raw)] := by
    rw [e, show 32 = 27 + 5 from rfl, ← List.drop_drop, ← hl, List.drop_left]
    exact List.drop_left' (by simp [ints64, h.2])
  rw [e1, e2]
  simp [rrC]
end
theorem IntsR.new {w : World} (l : List Int) (k : Nat) (hk : k = w.heap.size) (t : TypeId) : IntsR (w.alloc (.cells (ints64 l).toArray t)) (some ⟨k, 0, none⟩) l := by
  intro _
  subst hk
  refine ⟨_, 0, rfl, by simp, fun i hi => ?_⟩
  rw [Nat.zero_add]
  exact (Blk.new w t (ints64 l)).cell_ i (by simp [ints64, hi])
theorem IntsR.at {w : World} {g : Nat} {t : TypeId} {L : List Value} {l : List Int} (h : Blk w g t L) (o : Nat) (hl : (L.drop o).take l.length = ints64 l) : IntsR w (some ⟨g, o, none⟩) l := by
  intro _
  refine ⟨_, o, rfl, h.lt, fun i hi => ?_⟩
  refine h.cell_ (o + i) ?_
  have h1 : ((L.drop o).take l.length)[i]? = some (.int .i64 l[i]) := by rw [hl]; simp [ints64, hi]
  rw [List.getElem?_take_of_lt hi, List.getElem?_drop] at h1
  exact h1
end Go.Proofs.Ytlmgdogblbigpaa
