/-
  Layer 13 (rdata): has.
-/
import Derived.Test.YtlmgdogblbigpaaGK
namespace Go.Proofs.Ytlmgdogblbigpaa
open Go.RowKit
set_option maxRecDepth 100000
set_option linter.unusedVariables false
set_option linter.unusedSimpArgs false

def nilS : Value := .slice none 0 0
def RR.zero : RR := ⟨[], 0, 0, 0, Adr.zero, [], [], 0, 0, 0, [0, 0, 0, 0, 0], []⟩
def rrZ : List Value := rrC nilS nilS nilS RR.zero
theorem rrZ_len : rrZ.length = 33 := rrC_len ⟨rfl, rfl⟩
section
variable {vn vt vm : Value} {r : RR}
theorem rrC_setAd (h : r.wf) (a : Adr) : (rrC vn vt vm r).take 4 ++ a.cells ++ (rrC vn vt vm r).drop 22 = rrC vn vt vm { r with ad := a } := by
  have e : (rrC vn vt vm r).drop 22 = (vt :: vm :: .int .i64 r.pri :: .int .i64 r.we :: .int .i64 r.po :: (ints64 r.nums ++ [.string (bs r.raw)])) := by
    have e2 : rrC vn vt vm r = (vn :: .int .i64 r.ty :: .int .i64 r.cl :: .int .i64 r.ttl :: r.ad.cells) ++ (vt :: vm :: .int .i64 r.pri :: .int .i64 r.we :: .int .i64 r.po :: (ints64 r.nums ++ [.string (bs r.raw)])) := by simp [rrC]
    have hl : (vn :: .int .i64 r.ty :: .int .i64 r.cl :: .int .i64 r.ttl :: r.ad.cells).length = 22 := by simp [r.ad.cells_len h.1]
    rw [e2, ← hl, List.drop_left]
  rw [e]
  simp [rrC]
end
/-- What the whole of a new block is. -/
theorem whole_of {L sub : List Value} (h : L.length = sub.length) : L.take 0 ++ sub ++ L.drop (0 + sub.length) = sub := by
  rw [List.take_zero, List.nil_append, Nat.zero_add, List.drop_of_length_le (by omega), List.append_nil]
theorem Adr.zero_len : Adr.zero.cells.length = 18 := Adr.zero.cells_len rfl
set_option maxHeartbeats 2000000 in
theorem has_1 (vn vt vm : Value) (r : RR) (hr : r.wf) (hn : vn.oneCell' = true) (ht : vt.oneCell' = true) (hm : vm.oneCell' = true) (w : World) (hk : kindR r.ty r.cl = 1) :
    Calls Try.prog 114 #[.agg (rrC vn vt vm r).toArray] w (RetB (.tuple #[.agg (rrC vn vt vm { r with ad := Adr.zero }).toArray, .int .i64 (adE r.ad 4)]) w) := by
  have hl := rrC_len (vn := vn) (vt := vt) (vm := vm) hr
  have L1? := rrC_1 (vn := vn) (vt := vt) (vm := vm) (r := r)
  have L2? := rrC_2 (vn := vn) (vt := vt) (vm := vm) (r := r)
  have LA := Lib.hid (rrC_ad (vn := vn) (vt := vt) (vm := vm) hr)
  have LS := Lib.hid (rrC_setAd (vn := vn) (vt := vt) (vm := vm) hr Adr.zero)
  have L1c := Lib.hid (rrC_one (r := r) hn ht hm)
  have L4c := Lib.hid (rrC_one (r := { r with ad := Adr.zero }) hn ht hm)
  have L4l := rrC_len (vn := vn) (vt := vt) (vm := vm) (r := { r with ad := Adr.zero }) ⟨rfl, hr.2⟩
  have K := Lib.hid (fun w => kindOf_any r.ty r.cl w)
  rw [hk] at K
  have AD := Lib.hid (address_any r.ad 4 hr.1)
  generalize rrC vn vt vm { r with ad := Adr.zero } = L4 at *
  generalize rrC vn vt vm r = L at *
  generalize adE r.ad 4 = e at *
  generalize r.ad.cells = LAd at *
  generalize r.ty = ty at *
  generalize r.cl = cl at *
  clear hk
  have B0 := Blk.new w 86 L
  go_enter Try.func114, Try.ntmps114
  go_wp2_with (first
    | (refine at_op (.load 86 (.tmp 1)) rfl ?_; go_must (refine wpList_ldB rfl 86 (.tmp 1) rfl w.heap.size 0 rfl (Blk.alloc (Blk.new w 86 L) _) 33 (by omega) _ Try.underlying86 rfl rrInfo L (by rw [List.drop_zero, List.take_of_length_le (by omega)]) ?_))
    | (refine at_op (.store 86 (.tmp 4) (.tmp 6)) rfl ?_; go_must (refine wpList_stB rfl 86 (.tmp 4) (.tmp 6) rfl (w.heap.size + 1 + 1) 0 rfl L rfl (Blk.new' _ _ rrZ _ (by simp)) (by rw [rrZ_len]; omega) (by rw [hl]; exact rrInfo) L1c.out ?_)))
  intro w3 hb3 hg3 hs3
  have B1 : Blk w3 w.heap.size 86 L := ((B0.alloc _).alloc _).grown hg3 (by simp; omega)
  have B2 : Blk w3 (w.heap.size + 1) 86 rrZ := ((Blk.new' _ 86 rrZ _ (by simp)).alloc _).grown hg3 (by simp)
  have B4 : Blk w3 (w.heap.size + 1 + 1) 86 L := by rw [List.drop_of_length_le (by rw [rrZ_len]; omega), List.append_nil] at hb3; exact hb3
  have HB : Below w.heap.size w w3 := below_grown ((((Below.refl _ _).alloc (Nat.le_refl _) _).alloc (by simp) _).alloc (by simp; omega) _) hg3 (by simp; omega) (by omega)
  clear hb3 hg3 B0
  have u1 := B1.cell_ 1 L1?
  have u2 := B1.cell_ 2 L2?
  clear L1? L2?
  go_wp2_with fail
  refine (K.out _).mono ?_
  rintro _ w4 ⟨rfl, rfl⟩
  clear K u1 u2
  go_wp2_with (refine at_op (.store 59 (.tmp 15) (.tmp 14)) rfl ?_; go_must (refine wpList_stB rfl 59 (.tmp 15) (.tmp 14) rfl (w.heap.size + 1 + 1) 4 rfl Adr.zero.cells rfl B4 (by rw [hl]; decide) adrInfo (Adr.cells_one _) ?_))
  intro w4 hb4 hg4 hs4
  have B1' := B1.grown hg4 (by simp; omega)
  have B2' := B2.grown hg4 (by simp)
  have B4' : Blk w4 (w.heap.size + 1 + 1) 86 L4 := by rw [← LS.out]; simpa only [Adr.zero_len, List.append_assoc] using hb4
  have HB' : Below w.heap.size w w4 := below_grown HB hg4 HB.size (by omega)
  clear hb4 hg4 B1 B2 B4 HB
  go_wp2_with fail
  refine wp_region_held_drew (S := fun w' => Blk w' w.heap.size 86 L ∧ Blk w' (w.heap.size + 1 + 1) 86 L4) (by kernel_rfl) ⟨B1', B4'⟩ (fun hS => ?_)
  refine held_ld 0 (some 16) 86 (.tmp 4) ⟨w.heap.size + 1 + 1, 0, none⟩ rfl rfl rfl rfl (by kernel_rfl) (by kernel_rfl) (by kernel_rfl) (fun _ _ _ h => h) rfl (fun W hW => hW.2.loads 86 0 33 (by omega) _ Try.underlying86 rfl rrInfo L4 (by rw [List.drop_zero, List.take_of_length_le (by omega)])) hS ?_
  simp only [Act.put, List.setIfInBounds_toArray, List.set_cons_zero, List.set_cons_succ]
  (refine held_val 1 (some 17) rfl rfl (by kernel_rfl) (by kernel_rfl) (by kernel_rfl) (fun _ _ _ h => h) (by kernel_rfl) (fun W hW => rfl) hS ?_; simp only [Act.put, List.setIfInBounds_toArray, List.set_cons_zero, List.set_cons_succ])
  refine held_ld 2 (some 18) 59 (.tmp 17) ⟨w.heap.size, 4, none⟩ rfl rfl rfl rfl (by kernel_rfl) (by kernel_rfl) (by kernel_rfl) (fun _ _ _ h => h) (by kernel_rfl) (fun W hW => hW.1.loads 59 4 18 (by omega) _ Try.underlying59 rfl adrInfo LAd LA.out) hS ?_
  simp only [Act.put, List.setIfInBounds_toArray, List.set_cons_zero, List.set_cons_succ]
  refine held_call 3 (some 19) 129 #[.agg LAd.toArray, .int .i64 4] (by kernel_rfl) rfl rfl (by kernel_rfl) (by go_simp) (AD.out _) ?_
  rintro _ w5 ⟨rfl, b5⟩
  have B1'' := hS.1.below b5 hS.1.lt
  have B4'' := hS.2.below b5 hS.2.lt
  have B2'' := B2'.drew.below b5 B2'.drew.lt
  have HB'' : Below w.heap.size w w5 := below_then (w := w4.drew) (below_drewN HB' 1) HB'.size b5
  refine ⟨_, rfl, ⟨B1'', B4''⟩, ?_⟩
  clear hS B1' B4' B2' HB' b5
  simp only [Act.put, List.setIfInBounds_toArray, List.set_cons_zero, List.set_cons_succ]
  refine held_stB 4 none 86 (.tmp 2) (.tmp 16) (by kernel_rfl) rfl rfl rfl (by kernel_rfl) (w.heap.size + 1) 0 rfl L4 rfl B2'' (by rw [rrZ_len]; omega) (by rw [L4l]; exact rrInfo) L4c.out ?_
  intro w6 hb6 hg6 hs6
  rw [whole_of (by rw [rrZ_len]; omega)] at hb6
  have HB6 : Below w.heap.size w w6 := below_grown HB'' hg6 HB''.size (by omega)
  have hS : Blk w6 w.heap.size 86 L ∧ Blk w6 (w.heap.size + 1 + 1) 86 L4 := ⟨B1''.grown hg6 (by simp), B4''.grown hg6 (by simp)⟩
  refine ⟨hS, ?_⟩
  clear B1'' B4'' B2'' HB'' hg6
  simp only [Act.put, List.setIfInBounds_toArray, List.set_cons_zero, List.set_cons_succ]
  (refine held_val 5 (some 3) rfl rfl (by kernel_rfl) (by kernel_rfl) (by kernel_rfl) (fun _ _ _ h => h) (by kernel_rfl) (fun W hW => rfl) hS ?_; simp only [Act.put, List.setIfInBounds_toArray, List.set_cons_zero, List.set_cons_succ])
  refine wpAnyH_done (by kernel_rfl) ?_ _
  clear hS
  go_wp2_with fail
  refine ret_cell_tmp rfl (w.heap.size + 1) rfl hb6 _ Try.underlying86 rfl (by rw [L4l]; exact rrInfo) rfl (.int .i64 e) rfl ?_
  exact RetB.mk rfl HB6
set_option maxHeartbeats 2000000 in
theorem has_28 (vn vt vm : Value) (r : RR) (hr : r.wf) (hn : vn.oneCell' = true) (ht : vt.oneCell' = true) (hm : vm.oneCell' = true) (w : World) (hk : kindR r.ty r.cl = 28) :
    Calls Try.prog 114 #[.agg (rrC vn vt vm r).toArray] w (RetB (.tuple #[.agg (rrC vn vt vm { r with ad := Adr.zero }).toArray, .int .i64 (adE r.ad 6)]) w) := by
  have hl := rrC_len (vn := vn) (vt := vt) (vm := vm) hr
  have L1? := rrC_1 (vn := vn) (vt := vt) (vm := vm) (r := r)
  have L2? := rrC_2 (vn := vn) (vt := vt) (vm := vm) (r := r)
  have LA := Lib.hid (rrC_ad (vn := vn) (vt := vt) (vm := vm) hr)
  have LS := Lib.hid (rrC_setAd (vn := vn) (vt := vt) (vm := vm) hr Adr.zero)
  have L1c := Lib.hid (rrC_one (r := r) hn ht hm)
  have L4c := Lib.hid (rrC_one (r := { r with ad := Adr.zero }) hn ht hm)
  have L4l := rrC_len (vn := vn) (vt := vt) (vm := vm) (r := { r with ad := Adr.zero }) ⟨rfl, hr.2⟩
  have K := Lib.hid (fun w => kindOf_any r.ty r.cl w)
  rw [hk] at K
  have AD := Lib.hid (address_any r.ad 6 hr.1)
  generalize rrC vn vt vm { r with ad := Adr.zero } = L4 at *
  generalize rrC vn vt vm r = L at *
  generalize adE r.ad 6 = e at *
  generalize r.ad.cells = LAd at *
  generalize r.ty = ty at *
  generalize r.cl = cl at *
  clear hk
  have B0 := Blk.new w 86 L
  go_enter Try.func114, Try.ntmps114
  go_wp2_with (first
    | (refine at_op (.load 86 (.tmp 1)) rfl ?_; go_must (refine wpList_ldB rfl 86 (.tmp 1) rfl w.heap.size 0 rfl (Blk.alloc (Blk.new w 86 L) _) 33 (by omega) _ Try.underlying86 rfl rrInfo L (by rw [List.drop_zero, List.take_of_length_le (by omega)]) ?_))
    | (refine at_op (.store 86 (.tmp 4) (.tmp 6)) rfl ?_; go_must (refine wpList_stB rfl 86 (.tmp 4) (.tmp 6) rfl (w.heap.size + 1 + 1) 0 rfl L rfl (Blk.new' _ _ rrZ _ (by simp)) (by rw [rrZ_len]; omega) (by rw [hl]; exact rrInfo) L1c.out ?_)))
  intro w3 hb3 hg3 hs3
  have B1 : Blk w3 w.heap.size 86 L := ((B0.alloc _).alloc _).grown hg3 (by simp; omega)
  have B2 : Blk w3 (w.heap.size + 1) 86 rrZ := ((Blk.new' _ 86 rrZ _ (by simp)).alloc _).grown hg3 (by simp)
  have B4 : Blk w3 (w.heap.size + 1 + 1) 86 L := by rw [List.drop_of_length_le (by rw [rrZ_len]; omega), List.append_nil] at hb3; exact hb3
  have HB : Below w.heap.size w w3 := below_grown ((((Below.refl _ _).alloc (Nat.le_refl _) _).alloc (by simp) _).alloc (by simp; omega) _) hg3 (by simp; omega) (by omega)
  clear hb3 hg3 B0
  have u1 := B1.cell_ 1 L1?
  have u2 := B1.cell_ 2 L2?
  clear L1? L2?
  go_wp2_with fail
  refine (K.out _).mono ?_
  rintro _ w4 ⟨rfl, rfl⟩
  clear K u1 u2
  go_wp2_with (refine at_op (.store 59 (.tmp 23) (.tmp 22)) rfl ?_; go_must (refine wpList_stB rfl 59 (.tmp 23) (.tmp 22) rfl (w.heap.size + 1 + 1) 4 rfl Adr.zero.cells rfl B4 (by rw [hl]; decide) adrInfo (Adr.cells_one _) ?_))
  intro w4 hb4 hg4 hs4
  have B1' := B1.grown hg4 (by simp; omega)
  have B2' := B2.grown hg4 (by simp)
  have B4' : Blk w4 (w.heap.size + 1 + 1) 86 L4 := by rw [← LS.out]; simpa only [Adr.zero_len, List.append_assoc] using hb4
  have HB' : Below w.heap.size w w4 := below_grown HB hg4 HB.size (by omega)
  clear hb4 hg4 B1 B2 B4 HB
  go_wp2_with fail
  refine wp_region_held_drew (S := fun w' => Blk w' w.heap.size 86 L ∧ Blk w' (w.heap.size + 1 + 1) 86 L4) (by kernel_rfl) ⟨B1', B4'⟩ (fun hS => ?_)
  refine held_ld 0 (some 24) 86 (.tmp 4) ⟨w.heap.size + 1 + 1, 0, none⟩ rfl rfl rfl rfl (by kernel_rfl) (by kernel_rfl) (by kernel_rfl) (fun _ _ _ h => h) rfl (fun W hW => hW.2.loads 86 0 33 (by omega) _ Try.underlying86 rfl rrInfo L4 (by rw [List.drop_zero, List.take_of_length_le (by omega)])) hS ?_
  simp only [Act.put, List.setIfInBounds_toArray, List.set_cons_zero, List.set_cons_succ]
  (refine held_val 1 (some 25) rfl rfl (by kernel_rfl) (by kernel_rfl) (by kernel_rfl) (fun _ _ _ h => h) (by kernel_rfl) (fun W hW => rfl) hS ?_; simp only [Act.put, List.setIfInBounds_toArray, List.set_cons_zero, List.set_cons_succ])
  refine held_ld 2 (some 26) 59 (.tmp 25) ⟨w.heap.size, 4, none⟩ rfl rfl rfl rfl (by kernel_rfl) (by kernel_rfl) (by kernel_rfl) (fun _ _ _ h => h) (by kernel_rfl) (fun W hW => hW.1.loads 59 4 18 (by omega) _ Try.underlying59 rfl adrInfo LAd LA.out) hS ?_
  simp only [Act.put, List.setIfInBounds_toArray, List.set_cons_zero, List.set_cons_succ]
  refine held_call 3 (some 27) 129 #[.agg LAd.toArray, .int .i64 6] (by kernel_rfl) rfl rfl (by kernel_rfl) (by go_simp) (AD.out _) ?_
  rintro _ w5 ⟨rfl, b5⟩
  have B1'' := hS.1.below b5 hS.1.lt
  have B4'' := hS.2.below b5 hS.2.lt
  have B2'' := B2'.drew.below b5 B2'.drew.lt
  have HB'' : Below w.heap.size w w5 := below_then (w := w4.drew) (below_drewN HB' 1) HB'.size b5
  refine ⟨_, rfl, ⟨B1'', B4''⟩, ?_⟩
  clear hS B1' B4' B2' HB' b5
  simp only [Act.put, List.setIfInBounds_toArray, List.set_cons_zero, List.set_cons_succ]
  refine held_stB 4 none 86 (.tmp 2) (.tmp 24) (by kernel_rfl) rfl rfl rfl (by kernel_rfl) (w.heap.size + 1) 0 rfl L4 rfl B2'' (by rw [rrZ_len]; omega) (by rw [L4l]; exact rrInfo) L4c.out ?_
  intro w6 hb6 hg6 hs6
  rw [whole_of (by rw [rrZ_len]; omega)] at hb6
  have HB6 : Below w.heap.size w w6 := below_grown HB'' hg6 HB''.size (by omega)
  have hS : Blk w6 w.heap.size 86 L ∧ Blk w6 (w.heap.size + 1 + 1) 86 L4 := ⟨B1''.grown hg6 (by simp), B4''.grown hg6 (by simp)⟩
  refine ⟨hS, ?_⟩
  clear B1'' B4'' B2'' HB'' hg6
  simp only [Act.put, List.setIfInBounds_toArray, List.set_cons_zero, List.set_cons_succ]
  (refine held_val 5 (some 3) rfl rfl (by kernel_rfl) (by kernel_rfl) (by kernel_rfl) (fun _ _ _ h => h) (by kernel_rfl) (fun W hW => rfl) hS ?_; simp only [Act.put, List.setIfInBounds_toArray, List.set_cons_zero, List.set_cons_succ])
  refine wpAnyH_done (by kernel_rfl) ?_ _
  clear hS
  go_wp2_with fail
  refine ret_cell_tmp rfl (w.heap.size + 1) rfl hb6 _ Try.underlying86 rfl (by rw [L4l]; exact rrInfo) rfl (.int .i64 e) rfl ?_
  exact RetB.mk rfl HB6
end Go.Proofs.Ytlmgdogblbigpaa
/-
  Layer 13 (rdata): has, names and numbers.
-/
namespace Go.Proofs.Ytlmgdogblbigpaa
open Go.RowKit
set_option maxRecDepth 100000
set_option linter.unusedVariables false
set_option linter.unusedSimpArgs false

section
variable {vn vt vm : Value} {r : RR}
theorem rrC_setT (h : r.wf) (k : Nat) (v : Value) : (rrC vn vt vm r).set (22 + k) v = (vn :: .int .i64 r.ty :: .int .i64 r.cl :: .int .i64 r.ttl :: r.ad.cells) ++ (vt :: vm :: .int .i64 r.pri :: .int .i64 r.we :: .int .i64 r.po :: (ints64 r.nums ++ [.string (bs r.raw)])).set k v := by
  have e2 : rrC vn vt vm r = (vn :: .int .i64 r.ty :: .int .i64 r.cl :: .int .i64 r.ttl :: r.ad.cells) ++ (vt :: vm :: .int .i64 r.pri :: .int .i64 r.we :: .int .i64 r.po :: (ints64 r.nums ++ [.string (bs r.raw)])) := by simp [rrC]
  have hl : (vn :: .int .i64 r.ty :: .int .i64 r.cl :: .int .i64 r.ttl :: r.ad.cells).length = 22 := by simp [r.ad.cells_len h.1]
  rw [e2, List.set_append_right _ _ (by omega), hl, Nat.add_sub_cancel_left]
theorem rrC_setTg (h : r.wf) (v : Value) : (rrC vn vt vm r).set 22 v = rrC vn v vm r := by rw [rrC_setT h 0]; simp [rrC]
theorem rrC_setMl (h : r.wf) (v : Value) : (rrC vn vt vm r).set 23 v = rrC vn vt v r := by rw [rrC_setT h 1]; simp [rrC]
theorem rrC_setPri (h : r.wf) (x : Int) : (rrC vn vt vm r).set 24 (.int .i64 x) = rrC vn vt vm { r with pri := x } := by rw [rrC_setT h 2]; simp [rrC]
theorem rrC_setWe (h : r.wf) (x : Int) : (rrC vn vt vm r).set 25 (.int .i64 x) = rrC vn vt vm { r with we := x } := by rw [rrC_setT h 3]; simp [rrC]
theorem rrC_setPo (h : r.wf) (x : Int) : (rrC vn vt vm r).set 26 (.int .i64 x) = rrC vn vt vm { r with po := x } := by rw [rrC_setT h 4]; simp [rrC]
theorem rrC_setRaw (h : r.wf) (x : List UInt8) : (rrC vn vt vm r).set 32 (.string (bs x)) = rrC vn vt vm { r with raw := x } := by
  rw [rrC_setT h 10]
  have e : (ints64 r.nums ++ [Value.string (bs r.raw)]).set 5 (.string (bs x)) = ints64 r.nums ++ [.string (bs x)] := by
    rw [List.set_append_right _ _ (by simp [ints64, h.2])]; simp [ints64, h.2]
  simp [rrC, e]
theorem rrC_setNums (h : r.wf) (l : List Int) (hl : l.length = 5) : (rrC vn vt vm r).take 27 ++ ints64 l ++ (rrC vn vt vm r).drop 32 = rrC vn vt vm { r with nums := l } := by
  have e : rrC vn vt vm r = (vn :: .int .i64 r.ty :: .int .i64 r.cl :: .int .i64 r.ttl :: (r.ad.cells ++ [vt, vm, .int .i64 r.pri, .int .i64 r.we, .int .i64 r.po])) ++ (ints64 r.nums ++ [.string (bs r.raw)]) := by simp [rrC]
  have hl : (vn :: .int .i64 r.ty :: .int .i64 r.cl :: .int .i64 r.ttl :: (r.ad.cells ++ [vt, vm, .int .i64 r.pri, .int .i64 r.we, .int .i64 r.po])).length = 27 := by simp [r.ad.cells_len h.1]
  have e1 : (rrC vn vt vm r).take 27 = (vn :: .int .i64 r.ty :: .int .i64 r.cl :: .int .i64 r.ttl :: (r.ad.cells ++ [vt, vm, .int .i64 r.pri, .int .i64 r.we, .int .i64 r.po])) := by rw [e, ← hl, List.take_left]
  have e2 : (rrC vn vt vm r).drop 32 = [.string (bs r.raw)] := by
    rw [e, show 32 = 27 + 5 from rfl, ← List.drop_drop, ← hl, List.drop_left]
    exact List.drop_left' (by simp [ints64, h.2])
  rw [e1, e2]
  simp [rrC]
end
theorem namesE_one (n : List (List UInt8)) : namesE [n] = checkN n := by simp only [namesE]; split <;> simp_all
/-- A list of one name, new. -/
theorem NmsR.new1 {w : World} {A : Option Addr} {c : Nat} {n : List (List UInt8)} (h : NmR w A c n) (k : Nat) (hk : k = w.heap.size) (t : TypeId) : NmsR (w.alloc (.cells #[.slice A n.length c] t)) (some ⟨k, 0, none⟩) [n] := by
  intro _
  subst hk
  refine ⟨_, 0, rfl, by simp, fun i hi => ?_⟩
  have hi0 : i = 0 := by simp at hi; exact hi
  subst hi0
  exact ⟨A, c, (Blk.new w t [.slice A n.length c]).cell_ 0 rfl, h.below ((Below.refl _ _).alloc (Nat.le_refl _) _)⟩
theorem NmsR.new2 {w : World} {A B : Option Addr} {c d : Nat} {n m : List (List UInt8)} (h : NmR w A c n) (h2 : NmR w B d m) (k : Nat) (hk : k = w.heap.size) (t : TypeId) : NmsR (w.alloc (.cells #[.slice A n.length c, .slice B m.length d] t)) (some ⟨k, 0, none⟩) [n, m] := by
  intro _
  subst hk
  refine ⟨_, 0, rfl, by simp, fun i hi => ?_⟩
  have hb := (Below.refl w.heap.size w).alloc (Nat.le_refl _) (.cells #[.slice A n.length c, .slice B m.length d] t)
  have hb1 := Blk.new w t [.slice A n.length c, .slice B m.length d]
  have hi0 : i = 0 ∨ i = 1 := by simp at hi; omega
  rcases hi0 with rfl | rfl
  · exact ⟨A, c, hb1.cell_ 0 rfl, h.below hb⟩
  · exact ⟨B, d, hb1.cell_ 1 rfl, h2.below hb⟩
set_option maxHeartbeats 2000000 in
theorem has_5 (vn vm : Value) (At : Option Addr) (ct : Nat) (r : RR) (hr : r.wf) (hn : vn.oneCell' = true) (hm : vm.oneCell' = true) (w : World) (hT : NmR w At ct r.tg) (hk : kindR r.ty r.cl = 5 ∨ kindR r.ty r.cl = 12) :
    Calls Try.prog 114 #[.agg (rrC vn (.slice At r.tg.length ct) vm r).toArray] w (RetB (.tuple #[.agg (rrC vn nilS vm { r with tg := [] }).toArray, .int .i64 (checkN r.tg)]) w) := by
  obtain ⟨vt, hvt⟩ : ∃ v, v = Value.slice At r.tg.length ct := ⟨_, rfl⟩
  have ht : vt.oneCell' = true := by rw [hvt]; rfl
  rw [← hvt]
  have hl := rrC_len (vn := vn) (vt := vt) (vm := vm) hr
  have L1? := rrC_1 (vn := vn) (vt := vt) (vm := vm) (r := r)
  have L2? := rrC_2 (vn := vn) (vt := vt) (vm := vm) (r := r)
  have L22 := rrC_22 (vn := vn) (vt := vt) (vm := vm) hr
  have LS := Lib.hid (rrC_setTg (vn := vn) (vt := vt) (vm := vm) hr nilS)
  have L1c := Lib.hid (rrC_one (r := r) hn ht hm)
  have L4c := Lib.hid (rrC_one (vt := nilS) (r := { r with tg := [] }) hn rfl hm)
  have L4l := rrC_len (vn := vn) (vt := nilS) (vm := vm) (r := { r with tg := [] }) hr
  have K := Lib.hid (fun w => kindOf_any r.ty r.cl w)
  have E := Lib.hid (namesE_one r.tg)
  change Hid (_ = rrC vn nilS vm { r with tg := [] }) at LS
  generalize rrC vn nilS vm { r with tg := [] } = L4 at *
  generalize rrC vn vt vm r = L at *
  generalize checkN r.tg = e at *
  generalize kindR r.ty r.cl = k at *
  generalize r.ty = ty at *
  generalize r.cl = cl at *
  rcases hk with rfl | rfl
  all_goals
    have B0 := Blk.new w 86 L
    go_enter Try.func114, Try.ntmps114
    go_wp2_with (first
      | (refine at_op (.load 86 (.tmp 1)) rfl ?_; go_must (refine wpList_ldB rfl 86 (.tmp 1) rfl w.heap.size 0 rfl (Blk.alloc (Blk.new w 86 L) _) 33 (by omega) _ Try.underlying86 rfl rrInfo L (by rw [List.drop_zero, List.take_of_length_le (by omega)]) ?_))
      | (refine at_op (.store 86 (.tmp 4) (.tmp 6)) rfl ?_; go_must (refine wpList_stB rfl 86 (.tmp 4) (.tmp 6) rfl (w.heap.size + 1 + 1) 0 rfl L rfl (Blk.new' _ _ rrZ _ (by simp)) (by rw [rrZ_len]; omega) (by rw [hl]; exact rrInfo) L1c.out ?_)))
    intro w3 hb3 hg3 hs3
    have B1 : Blk w3 w.heap.size 86 L := ((B0.alloc _).alloc _).grown hg3 (by simp; omega)
    have B2 : Blk w3 (w.heap.size + 1) 86 rrZ := ((Blk.new' _ 86 rrZ _ (by simp)).alloc _).grown hg3 (by simp)
    have B4 : Blk w3 (w.heap.size + 1 + 1) 86 L := by rw [List.drop_of_length_le (by rw [rrZ_len]; omega), List.append_nil] at hb3; exact hb3
    have HB : Below w.heap.size w w3 := below_grown ((((Below.refl _ _).alloc (Nat.le_refl _) _).alloc (by simp) _).alloc (by simp; omega) _) hg3 (by simp; omega) (by omega)
    clear hb3 hg3 B0
    have u1 := B1.cell_ 1 L1?
    have u2 := B1.cell_ 2 L2?
    clear L1? L2?
    go_wp2_with fail
    refine (K.out _).mono ?_
    rintro _ w4 ⟨rfl, rfl⟩
    clear K u1 u2
    have u22 := B4.cell_ 22 L22
    have f22 := B4.frozen 22
    go_wp2_with fail
    have B4' := B4.set 22 nilS
    rw [LS.out] at B4'
    have B1' := B1.far (p := ⟨w.heap.size + 1 + 1, 22, none⟩) (by simp; omega) nilS
    have B2' := B2.far (p := ⟨w.heap.size + 1 + 1, 22, none⟩) (by simp) nilS
    have HB' : Below w.heap.size w (w3.setCell ⟨w.heap.size + 1 + 1, 22, none⟩ nilS) := HB.setCell (by simp; omega) _
    have hs4 : (w3.setCell ⟨w.heap.size + 1 + 1, 22, none⟩ nilS).heap.size = w.heap.size + 1 + 1 + 1 := by simpa [World.setCell] using hs3
    change Code.wp _ _ _ _ (w3.setCell ⟨w.heap.size + 1 + 1, 22, none⟩ nilS)
    generalize w3.setCell ⟨w.heap.size + 1 + 1, 22, none⟩ nilS = w4 at *
    clear B1 B2 B4 HB f22 hs3 LS
    refine wp_region_held_drew (S := fun w' => Blk w' w.heap.size 86 L ∧ Blk w' (w.heap.size + 1 + 1) 86 L4) (by kernel_rfl) ⟨B1', B4'⟩ (fun hS => ?_)
    refine held_ld 0 (some 32) 86 (.tmp 4) ⟨w.heap.size + 1 + 1, 0, none⟩ rfl rfl rfl rfl (by kernel_rfl) (by kernel_rfl) (by kernel_rfl) (fun _ _ _ h => h) rfl (fun W hW => hW.2.loads 86 0 33 (by omega) _ Try.underlying86 rfl rrInfo L4 (by rw [List.drop_zero, List.take_of_length_le (by omega)])) hS ?_
    simp only [Act.put, List.setIfInBounds_toArray, List.set_cons_zero, List.set_cons_succ]
    (refine held_val 1 (some 33) rfl rfl (by kernel_rfl) (by kernel_rfl) (by kernel_rfl) (fun _ _ _ h => h) (by kernel_rfl) (fun W hW => rfl) hS ?_; simp only [Act.put, List.setIfInBounds_toArray, List.set_cons_zero, List.set_cons_succ])
    refine held_ld 2 (some 34) 24 (.tmp 33) ⟨w.heap.size, 22, none⟩ rfl rfl rfl rfl (by kernel_rfl) (by kernel_rfl) (by kernel_rfl) (fun _ _ _ h => h) (by kernel_rfl) (fun W hW => run_load1 Try.underlying24 rfl (hW.1.cell_ 22 L22)) hS ?_
    simp only [Act.put, List.setIfInBounds_toArray, List.set_cons_zero, List.set_cons_succ]
    have HB5 : Below w.heap.size w w4.drew := below_drewN HB' 1
    refine held_run 3 (some 35) (by kernel_rfl) rfl rfl (by kernel_rfl) (v := .slice (some ⟨w4.drew.heap.size, 0, none⟩) 1 1) (w' := w4.drew.alloc (.cells #[vt] 24)) (by go_simp) ⟨hS.1.alloc _, hS.2.alloc _⟩ ?_
    simp only [Act.put, List.setIfInBounds_toArray, List.set_cons_zero, List.set_cons_succ]
    have AN := rnames_any (some ⟨w4.drew.heap.size, 0, none⟩) 1 [r.tg] _ (hvt ▸ NmsR.new1 (hT.below HB5) w4.drew.heap.size rfl 24) (by simp)
    rw [E.out] at AN
    refine held_call 4 (some 36) 130 #[.slice (some ⟨w4.drew.heap.size, 0, none⟩) 1 1] (by kernel_rfl) rfl rfl (by kernel_rfl) (by go_simp) AN ?_
    rintro _ w5 ⟨rfl, b5⟩
    have HB'' : Below w.heap.size w w5 := b5 ▸ HB5.alloc HB5.size _
    have B1'' : Blk w5 w.heap.size 86 L := b5 ▸ hS.1.alloc _
    have B4'' : Blk w5 (w.heap.size + 1 + 1) 86 L4 := b5 ▸ hS.2.alloc _
    have B2'' : Blk w5 (w.heap.size + 1) 86 rrZ := b5 ▸ B2'.drew.alloc _
    refine ⟨_, rfl, ⟨B1'', B4''⟩, ?_⟩
    clear hS B1' B4' B2' HB' HB5 b5 AN
    simp only [Act.put, List.setIfInBounds_toArray, List.set_cons_zero, List.set_cons_succ]
    refine held_stB 5 none 86 (.tmp 2) (.tmp 32) (by kernel_rfl) rfl rfl rfl (by kernel_rfl) (w.heap.size + 1) 0 rfl L4 rfl B2'' (by rw [rrZ_len]; omega) (by rw [L4l]; exact rrInfo) L4c.out ?_
    intro w6 hb6 hg6 hs6
    rw [whole_of (by rw [rrZ_len]; omega)] at hb6
    have HB6 : Below w.heap.size w w6 := below_grown HB'' hg6 HB''.size (by omega)
    have hS : Blk w6 w.heap.size 86 L ∧ Blk w6 (w.heap.size + 1 + 1) 86 L4 := ⟨B1''.grown hg6 (by simp), B4''.grown hg6 (by simp)⟩
    refine ⟨hS, ?_⟩
    clear B1'' B4'' B2'' HB'' hg6
    simp only [Act.put, List.setIfInBounds_toArray, List.set_cons_zero, List.set_cons_succ]
    (refine held_val 6 (some 3) rfl rfl (by kernel_rfl) (by kernel_rfl) (by kernel_rfl) (fun _ _ _ h => h) (by kernel_rfl) (fun W hW => rfl) hS ?_; simp only [Act.put, List.setIfInBounds_toArray, List.set_cons_zero, List.set_cons_succ])
    refine wpAnyH_done (by kernel_rfl) ?_ _
    clear hS
    go_wp2_with fail
    refine ret_cell_tmp rfl (w.heap.size + 1) rfl hb6 _ Try.underlying86 rfl (by rw [L4l]; exact rrInfo) rfl (.int .i64 e) rfl ?_
    exact RetB.mk rfl HB6
theorem IntsR.new {w : World} (l : List Int) (k : Nat) (hk : k = w.heap.size) (t : TypeId) : IntsR (w.alloc (.cells (ints64 l).toArray t)) (some ⟨k, 0, none⟩) l := by
  intro _
  subst hk
  refine ⟨_, 0, rfl, by simp, fun i hi => ?_⟩
  rw [Nat.zero_add]
  exact (Blk.new w t (ints64 l)).cell_ i (by simp [ints64, hi])
theorem IntsR.at {w : World} {g : Nat} {t : TypeId} {L : List Value} {l : List Int} (h : Blk w g t L) (o : Nat) (hl : (L.drop o).take l.length = ints64 l) : IntsR w (some ⟨g, o, none⟩) l := by
  intro _
  refine ⟨_, o, rfl, h.lt, fun i hi => ?_⟩
  refine h.cell_ (o + i) ?_
  have h1 : ((L.drop o).take l.length)[i]? = some (.int .i64 l[i]) := by rw [hl]; simp [ints64, hi]
  rw [List.getElem?_take_of_lt hi, List.getElem?_drop] at h1
  exact h1
/-- A numeral's cell is set. -/
theorem rrS {w : World} {g : Nat} {t : TypeId} {L L' : List Value} {i : Nat} {v : Value} (h : Blk w g t L) (he : L.set i v = L') : Blk (w.setCell ⟨g, i, none⟩ v) g t L' := he ▸ h.set i v
set_option maxHeartbeats 4000000 in
theorem has_33 (vn vm : Value) (At : Option Addr) (ct : Nat) (r : RR) (hr : r.wf) (hn : vn.oneCell' = true) (hm : vm.oneCell' = true) (w : World) (hT : NmR w At ct r.tg) (hk : kindR r.ty r.cl = 33) :
    Calls Try.prog 114 #[.agg (rrC vn (.slice At r.tg.length ct) vm r).toArray] w (RetB (.tuple #[.agg (rrC vn nilS vm { r with pri := 0, we := 0, po := 0, tg := [] }).toArray, .int .i64 (if [r.pri, r.we, r.po].all (inB 65535) then checkN r.tg else 4)]) w) := by
  obtain ⟨vt, hvt⟩ : ∃ v, v = Value.slice At r.tg.length ct := ⟨_, rfl⟩
  have ht : vt.oneCell' = true := by rw [hvt]; rfl
  rw [← hvt]
  have hl := rrC_len (vn := vn) (vt := vt) (vm := vm) hr
  have L1? := rrC_1 (vn := vn) (vt := vt) (vm := vm) (r := r)
  have L2? := rrC_2 (vn := vn) (vt := vt) (vm := vm) (r := r)
  have L22 := rrC_22 (vn := vn) (vt := vt) (vm := vm) hr
  have L24 := rrC_24 (vn := vn) (vt := vt) (vm := vm) hr
  have L25 := rrC_25 (vn := vn) (vt := vt) (vm := vm) hr
  have L26 := rrC_26 (vn := vn) (vt := vt) (vm := vm) hr
  have LS : Hid (((((rrC vn vt vm r).set 24 (.int .i64 0)).set 25 (.int .i64 0)).set 26 (.int .i64 0)).set 22 nilS = rrC vn nilS vm { r with pri := 0, we := 0, po := 0, tg := [] }) := Lib.hid (by
    rw [rrC_setPri hr, rrC_setWe (r := { r with pri := 0 }) hr, rrC_setPo (r := { r with pri := 0, we := 0 }) hr, rrC_setTg (r := { r with pri := 0, we := 0, po := 0 }) hr]; rfl)
  have L1c := Lib.hid (rrC_one (r := r) hn ht hm)
  have L4c := Lib.hid (rrC_one (vt := nilS) (r := { r with pri := 0, we := 0, po := 0, tg := [] }) hn rfl hm)
  have L4l := rrC_len (vn := vn) (vt := nilS) (vm := vm) (r := { r with pri := 0, we := 0, po := 0, tg := [] }) hr
  have K := Lib.hid (fun w => kindOf_any r.ty r.cl w)
  rw [hk] at K
  have E := Lib.hid (namesE_one r.tg)
  have WI := Lib.hid (fun w A h => rwithin_any 65535 A 3 [r.pri, r.we, r.po] w h (by simp))
  generalize rrC vn nilS vm { r with pri := 0, we := 0, po := 0, tg := [] } = L4 at *
  generalize rrC vn vt vm r = L at *
  generalize checkN r.tg = e at *
  generalize hB3 : [r.pri, r.we, r.po].all (inB 65535) = b3 at *
  generalize r.pri = n1 at *
  generalize r.we = n2 at *
  generalize r.po = n3 at *
  clear hB3
  generalize r.ty = ty at *
  generalize r.cl = cl at *
  clear hk
  generalize hres : (if b3 = true then e else 4) = res
  have hres' := Lib.hid hres
  clear hres
  have B0 := Blk.new w 86 L
  go_enter Try.func114, Try.ntmps114
  go_wp2_with (first
    | (refine at_op (.load 86 (.tmp 1)) rfl ?_; go_must (refine wpList_ldB rfl 86 (.tmp 1) rfl w.heap.size 0 rfl (Blk.alloc (Blk.new w 86 L) _) 33 (by omega) _ Try.underlying86 rfl rrInfo L (by rw [List.drop_zero, List.take_of_length_le (by omega)]) ?_))
    | (refine at_op (.store 86 (.tmp 4) (.tmp 6)) rfl ?_; go_must (refine wpList_stB rfl 86 (.tmp 4) (.tmp 6) rfl (w.heap.size + 1 + 1) 0 rfl L rfl (Blk.new' _ _ rrZ _ (by simp)) (by rw [rrZ_len]; omega) (by rw [hl]; exact rrInfo) L1c.out ?_)))
  intro w3 hb3 hg3 hs3
  have B1 : Blk w3 w.heap.size 86 L := ((B0.alloc _).alloc _).grown hg3 (by simp; omega)
  have B2 : Blk w3 (w.heap.size + 1) 86 rrZ := ((Blk.new' _ 86 rrZ _ (by simp)).alloc _).grown hg3 (by simp)
  have B4 : Blk w3 (w.heap.size + 1 + 1) 86 L := by rw [List.drop_of_length_le (by rw [rrZ_len]; omega), List.append_nil] at hb3; exact hb3
  have HB : Below w.heap.size w w3 := below_grown ((((Below.refl _ _).alloc (Nat.le_refl _) _).alloc (by simp) _).alloc (by simp; omega) _) hg3 (by simp; omega) (by omega)
  clear hb3 hg3 B0
  have u1 := B1.cell_ 1 L1?
  have u2 := B1.cell_ 2 L2?
  clear L1? L2?
  go_wp2_with fail
  refine (K.out _).mono ?_
  rintro _ w4 ⟨rfl, rfl⟩
  clear K u1 u2
  have u22 := B4.cell_ 22 L22
  have u24 := B4.cell_ 24 L24
  have u25 := B4.cell_ 25 L25
  have u26 := B4.cell_ 26 L26
  have v24 := B1.cell_ 24 L24
  have v25 := B1.cell_ 25 L25
  have v26 := B1.cell_ 26 L26
  have f22 := B4.frozen 22
  have f24 := B4.frozen 24
  have f25 := B4.frozen 25
  have f26 := B4.frozen 26
  go_wp2_with fail
  have B4s := rrS (((B4.set 24 (.int .i64 0)).set 25 (.int .i64 0)).set 26 (.int .i64 0)) LS.out
  have hne : w.heap.size ≠ w.heap.size + 1 + 1 := by omega
  have hne2 : w.heap.size + 1 ≠ w.heap.size + 1 + 1 := by omega
  have B1s := (((B1.far (p := ⟨w.heap.size + 1 + 1, 24, none⟩) hne (.int .i64 0)).far (p := ⟨w.heap.size + 1 + 1, 25, none⟩) hne (.int .i64 0)).far (p := ⟨w.heap.size + 1 + 1, 26, none⟩) hne (.int .i64 0)).far (p := ⟨w.heap.size + 1 + 1, 22, none⟩) hne nilS
  have B2s := (((B2.far (p := ⟨w.heap.size + 1 + 1, 24, none⟩) hne2 (.int .i64 0)).far (p := ⟨w.heap.size + 1 + 1, 25, none⟩) hne2 (.int .i64 0)).far (p := ⟨w.heap.size + 1 + 1, 26, none⟩) hne2 (.int .i64 0)).far (p := ⟨w.heap.size + 1 + 1, 22, none⟩) hne2 nilS
  have HBs := (((HB.setCell (p := ⟨w.heap.size + 1 + 1, 24, none⟩) (by simp; omega) (.int .i64 0)).setCell (p := ⟨w.heap.size + 1 + 1, 25, none⟩) (by simp; omega) (.int .i64 0)).setCell (p := ⟨w.heap.size + 1 + 1, 26, none⟩) (by simp; omega) (.int .i64 0)).setCell (p := ⟨w.heap.size + 1 + 1, 22, none⟩) (by simp; omega) nilS
  have hss : ((((w3.setCell ⟨w.heap.size + 1 + 1, 24, none⟩ (.int .i64 0)).setCell ⟨w.heap.size + 1 + 1, 25, none⟩ (.int .i64 0)).setCell ⟨w.heap.size + 1 + 1, 26, none⟩ (.int .i64 0)).setCell ⟨w.heap.size + 1 + 1, 22, none⟩ nilS).heap.size = w.heap.size + 1 + 1 + 1 := by simpa [World.setCell] using hs3
  change Calls _ _ _ (World.alloc ((((w3.setCell ⟨w.heap.size + 1 + 1, 24, none⟩ (.int .i64 0)).setCell ⟨w.heap.size + 1 + 1, 25, none⟩ (.int .i64 0)).setCell ⟨w.heap.size + 1 + 1, 26, none⟩ (.int .i64 0)).setCell ⟨w.heap.size + 1 + 1, 22, none⟩ nilS) _) _
  generalize (((w3.setCell ⟨w.heap.size + 1 + 1, 24, none⟩ (.int .i64 0)).setCell ⟨w.heap.size + 1 + 1, 25, none⟩ (.int .i64 0)).setCell ⟨w.heap.size + 1 + 1, 26, none⟩ (.int .i64 0)).setCell ⟨w.heap.size + 1 + 1, 22, none⟩ nilS = w7 at *
  clear B1 B2 B4 HB f22 f24 f25 f26 v24 v25 v26 LS hs3 L24 L25 L26
  refine (WI.out _ _ (IntsR.new [n1, n2, n3] _ hss.symm 3)).mono ?_
  rintro _ w8 ⟨rfl, rfl⟩
  clear WI
  have B1' := B1s.alloc (.cells (ints64 [n1, n2, n3]).toArray 3)
  have B2' := B2s.alloc (.cells (ints64 [n1, n2, n3]).toArray 3)
  have B4' := B4s.alloc (.cells (ints64 [n1, n2, n3]).toArray 3)
  have HB' := HBs.alloc HBs.size (.cells (ints64 [n1, n2, n3]).toArray 3)
  have hs4 : (w7.alloc (.cells (ints64 [n1, n2, n3]).toArray 3)).heap.size = w.heap.size + 1 + 1 + 1 + 1 := by simpa using hss
  generalize w7.alloc (.cells (ints64 [n1, n2, n3]).toArray 3) = w4 at *
  clear B1s B2s B4s HBs hss
  cases b3 with
  | true =>
    have hr1 : e = res := by simpa using hres'.out
    subst hr1
    clear hres'
    go_wp2_with fail
    refine wp_region_held_drew (S := fun w' => Blk w' w.heap.size 86 L ∧ Blk w' (w.heap.size + 1 + 1) 86 L4) (by kernel_rfl) ⟨B1', B4'⟩ (fun hS => ?_)
    refine held_ld 0 (some 53) 86 (.tmp 4) ⟨w.heap.size + 1 + 1, 0, none⟩ rfl rfl rfl rfl (by kernel_rfl) (by kernel_rfl) (by kernel_rfl) (fun _ _ _ h => h) rfl (fun W hW => hW.2.loads 86 0 33 (by omega) _ Try.underlying86 rfl rrInfo L4 (by rw [List.drop_zero, List.take_of_length_le (by omega)])) hS ?_
    simp only [Act.put, List.setIfInBounds_toArray, List.set_cons_zero, List.set_cons_succ]
    (refine held_val 1 (some 54) rfl rfl (by kernel_rfl) (by kernel_rfl) (by kernel_rfl) (fun _ _ _ h => h) (by kernel_rfl) (fun W hW => rfl) hS ?_; simp only [Act.put, List.setIfInBounds_toArray, List.set_cons_zero, List.set_cons_succ])
    refine held_ld 2 (some 55) 24 (.tmp 54) ⟨w.heap.size, 22, none⟩ rfl rfl rfl rfl (by kernel_rfl) (by kernel_rfl) (by kernel_rfl) (fun _ _ _ h => h) (by kernel_rfl) (fun W hW => run_load1 Try.underlying24 rfl (hW.1.cell_ 22 L22)) hS ?_
    simp only [Act.put, List.setIfInBounds_toArray, List.set_cons_zero, List.set_cons_succ]
    have HB5 : Below w.heap.size w w4.drew := below_drewN HB' 1
    refine held_run 3 (some 56) (by kernel_rfl) rfl rfl (by kernel_rfl) (v := .slice (some ⟨w4.drew.heap.size, 0, none⟩) 1 1) (w' := w4.drew.alloc (.cells #[vt] 24)) (by go_simp) ⟨hS.1.alloc _, hS.2.alloc _⟩ ?_
    simp only [Act.put, List.setIfInBounds_toArray, List.set_cons_zero, List.set_cons_succ]
    have AN := rnames_any (some ⟨w4.drew.heap.size, 0, none⟩) 1 [r.tg] _ (hvt ▸ NmsR.new1 (hT.below HB5) w4.drew.heap.size rfl 24) (by simp)
    rw [E.out] at AN
    refine held_call 4 (some 57) 130 #[.slice (some ⟨w4.drew.heap.size, 0, none⟩) 1 1] (by kernel_rfl) rfl rfl (by kernel_rfl) (by go_simp) AN ?_
    rintro _ w5 ⟨rfl, b5⟩
    have HB'' : Below w.heap.size w w5 := b5 ▸ HB5.alloc HB5.size _
    have B1'' : Blk w5 w.heap.size 86 L := b5 ▸ hS.1.alloc _
    have B4'' : Blk w5 (w.heap.size + 1 + 1) 86 L4 := b5 ▸ hS.2.alloc _
    have B2'' : Blk w5 (w.heap.size + 1) 86 rrZ := b5 ▸ B2'.drew.alloc _
    refine ⟨_, rfl, ⟨B1'', B4''⟩, ?_⟩
    clear hS B1' B4' B2' HB' HB5 b5 AN
    simp only [Act.put, List.setIfInBounds_toArray, List.set_cons_zero, List.set_cons_succ]
    refine held_stB 5 none 86 (.tmp 2) (.tmp 53) (by kernel_rfl) rfl rfl rfl (by kernel_rfl) (w.heap.size + 1) 0 rfl L4 rfl B2'' (by rw [rrZ_len]; omega) (by rw [L4l]; exact rrInfo) L4c.out ?_
    intro w6 hb6 hg6 hs6
    rw [whole_of (by rw [rrZ_len]; omega)] at hb6
    have HB6 : Below w.heap.size w w6 := below_grown HB'' hg6 HB''.size (by omega)
    have hS : Blk w6 w.heap.size 86 L ∧ Blk w6 (w.heap.size + 1 + 1) 86 L4 := ⟨B1''.grown hg6 (by simp), B4''.grown hg6 (by simp)⟩
    refine ⟨hS, ?_⟩
    clear B1'' B4'' B2'' HB'' hg6
    simp only [Act.put, List.setIfInBounds_toArray, List.set_cons_zero, List.set_cons_succ]
    (refine held_val 6 (some 3) rfl rfl (by kernel_rfl) (by kernel_rfl) (by kernel_rfl) (fun _ _ _ h => h) (by kernel_rfl) (fun W hW => rfl) hS ?_; simp only [Act.put, List.setIfInBounds_toArray, List.set_cons_zero, List.set_cons_succ])
    refine wpAnyH_done (by kernel_rfl) ?_ _
    clear hS
    go_wp2_with fail
    refine ret_cell_tmp rfl (w.heap.size + 1) rfl hb6 _ Try.underlying86 rfl (by rw [L4l]; exact rrInfo) rfl (.int .i64 e) rfl ?_
    exact RetB.mk rfl HB6
  | false =>
    have hr1 : (4 : Int) = res := by simpa using hres'.out
    subst hr1
    clear hres'
    have B4 := B4'
    have B2 := B2'
    have HB := HB'
    go_wp2_with (first
      | (refine at_op (.load 86 (.tmp 4)) rfl ?_; go_must (refine wpList_ldB rfl 86 (.tmp 4) rfl (w.heap.size + 1 + 1) 0 rfl B4 33 (by omega) _ Try.underlying86 rfl rrInfo L4 (by rw [List.drop_zero, List.take_of_length_le (by omega)]) ?_))
      | (refine at_op (.store 86 (.tmp 2) (.tmp 52)) rfl ?_; go_must (refine wpList_stB rfl 86 (.tmp 2) (.tmp 52) rfl (w.heap.size + 1) 0 rfl L4 rfl B2 (by rw [rrZ_len]; omega) (by rw [L4l]; exact rrInfo) L4c.out ?_)))
    intro w6 hb6 hg6 hs6
    rw [List.drop_of_length_le (by rw [rrZ_len]; omega), List.append_nil] at hb6
    have HB6 : Below w.heap.size w w6 := below_grown HB hg6 HB.size (by omega)
    clear hg6
    go_wp2_with fail
    refine ret_cell_tmp rfl (w.heap.size + 1) rfl hb6 _ Try.underlying86 rfl (by rw [L4l]; exact rrInfo) rfl _ rfl ?_
    exact RetB.mk rfl HB6
set_option maxHeartbeats 2000000 in
theorem has_0 (vn vt vm : Value) (r : RR) (hr : r.wf) (hn : vn.oneCell' = true) (ht : vt.oneCell' = true) (hm : vm.oneCell' = true) (w : World) (hraw : r.raw.length ≤ 140737488355328) (hk : kindR r.ty r.cl = 0) :
    Calls Try.prog 114 #[.agg (rrC vn vt vm r).toArray] w (RetB (.tuple #[.agg (rrC vn vt vm { r with raw := [] }).toArray, .int .i64 (if 65535 < r.raw.length then 3 else 0)]) w) := by
  have hl := rrC_len (vn := vn) (vt := vt) (vm := vm) hr
  have L1? := rrC_1 (vn := vn) (vt := vt) (vm := vm) (r := r)
  have L2? := rrC_2 (vn := vn) (vt := vt) (vm := vm) (r := r)
  have L32 := rrC_32 (vn := vn) (vt := vt) (vm := vm) hr
  have LS := Lib.hid (rrC_setRaw (vn := vn) (vt := vt) (vm := vm) hr [])
  have L1c := Lib.hid (rrC_one (r := r) hn ht hm)
  have L4c := Lib.hid (rrC_one (r := { r with raw := [] }) hn ht hm)
  have L4l := rrC_len (vn := vn) (vt := vt) (vm := vm) (r := { r with raw := [] }) hr
  have K := Lib.hid (fun w => kindOf_any r.ty r.cl w)
  rw [hk] at K
  generalize rrC vn vt vm { r with raw := [] } = L4 at *
  generalize rrC vn vt vm r = L at *
  generalize r.raw = raw at *
  generalize r.ty = ty at *
  generalize r.cl = cl at *
  clear hk
  generalize hres : (if 65535 < raw.length then (3 : Int) else 0) = res
  have hres' := Lib.hid hres
  clear hres
  have B0 := Blk.new w 86 L
  go_enter Try.func114, Try.ntmps114
  go_wp2_with (first
    | (refine at_op (.load 86 (.tmp 1)) rfl ?_; go_must (refine wpList_ldB rfl 86 (.tmp 1) rfl w.heap.size 0 rfl (Blk.alloc (Blk.new w 86 L) _) 33 (by omega) _ Try.underlying86 rfl rrInfo L (by rw [List.drop_zero, List.take_of_length_le (by omega)]) ?_))
    | (refine at_op (.store 86 (.tmp 4) (.tmp 6)) rfl ?_; go_must (refine wpList_stB rfl 86 (.tmp 4) (.tmp 6) rfl (w.heap.size + 1 + 1) 0 rfl L rfl (Blk.new' _ _ rrZ _ (by simp)) (by rw [rrZ_len]; omega) (by rw [hl]; exact rrInfo) L1c.out ?_)))
  intro w3 hb3 hg3 hs3
  have B1 : Blk w3 w.heap.size 86 L := ((B0.alloc _).alloc _).grown hg3 (by simp; omega)
  have B2 : Blk w3 (w.heap.size + 1) 86 rrZ := ((Blk.new' _ 86 rrZ _ (by simp)).alloc _).grown hg3 (by simp)
  have B4 : Blk w3 (w.heap.size + 1 + 1) 86 L := by rw [List.drop_of_length_le (by rw [rrZ_len]; omega), List.append_nil] at hb3; exact hb3
  have HB : Below w.heap.size w w3 := below_grown ((((Below.refl _ _).alloc (Nat.le_refl _) _).alloc (by simp) _).alloc (by simp; omega) _) hg3 (by simp; omega) (by omega)
  clear hb3 hg3 B0
  have u1 := B1.cell_ 1 L1?
  have u2 := B1.cell_ 2 L2?
  clear L1? L2?
  go_wp2_with fail
  refine (K.out _).mono ?_
  rintro _ w4 ⟨rfl, rfl⟩
  clear K u1 u2
  have u32 := B4.cell_ 32 L32
  have v32 := B1.cell_ 32 L32
  have f32 := B4.frozen 32
  have B4s := rrS B4 LS.out
  have hne : w.heap.size ≠ w.heap.size + 1 + 1 := by omega
  have hne2 : w.heap.size + 1 ≠ w.heap.size + 1 + 1 := by omega
  have B1s := B1.far (p := ⟨w.heap.size + 1 + 1, 32, none⟩) hne (.string (bs []))
  have B2s := B2.far (p := ⟨w.heap.size + 1 + 1, 32, none⟩) hne2 (.string (bs []))
  have HBs := HB.setCell (p := ⟨w.heap.size + 1 + 1, 32, none⟩) (by simp; omega) (.string (bs []))
  clear B1 B2 B4 HB L32 LS
  have B4 := B4s
  have B2 := B2s
  have HB := HBs
  have hs4 : (w3.setCell ⟨w.heap.size + 1 + 1, 32, none⟩ (.string (bs []))).heap.size = w.heap.size + 1 + 1 + 1 := by simpa [World.setCell] using hs3
  clear B4s B2s HBs B1s
  by_cases hlong : 65535 < raw.length
  · have hr1 : (3 : Int) = res := by rw [← hres'.out, if_pos hlong]
    have hd : decide (65535 < (raw.length : Int)) = true := decide_eq_true (by omega)
    subst hr1
    clear hres'
    go_wp2_with (first
      | (refine at_op (.load 86 (.tmp 4)) rfl ?_; go_must (refine wpList_ldB rfl 86 (.tmp 4) rfl (w.heap.size + 1 + 1) 0 rfl B4 33 (by omega) _ Try.underlying86 rfl rrInfo L4 (by rw [List.drop_zero, List.take_of_length_le (by omega)]) ?_))
      | (refine at_op (.store 86 (.tmp 2) (.tmp 85)) rfl ?_; go_must (refine wpList_stB rfl 86 (.tmp 2) (.tmp 85) rfl (w.heap.size + 1) 0 rfl L4 rfl B2 (by rw [rrZ_len]; omega) (by rw [L4l]; exact rrInfo) L4c.out ?_)))
    intro w6 hb6 hg6 hs6
    rw [List.drop_of_length_le (by rw [rrZ_len]; omega), List.append_nil] at hb6
    have HB6 : Below w.heap.size w w6 := below_grown HB hg6 HB.size (by omega)
    clear hg6
    go_wp2_with fail
    refine ret_cell_tmp rfl (w.heap.size + 1) rfl hb6 _ Try.underlying86 rfl (by rw [L4l]; exact rrInfo) rfl _ rfl ?_
    exact RetB.mk rfl HB6
  · have hr1 : (0 : Int) = res := by rw [← hres'.out, if_neg hlong]
    have hd : decide (65535 < (raw.length : Int)) = false := decide_eq_false (by omega)
    subst hr1
    clear hres'
    go_wp2_with (first
      | (refine at_op (.load 86 (.tmp 4)) rfl ?_; go_must (refine wpList_ldB rfl 86 (.tmp 4) rfl (w.heap.size + 1 + 1) 0 rfl B4 33 (by omega) _ Try.underlying86 rfl rrInfo L4 (by rw [List.drop_zero, List.take_of_length_le (by omega)]) ?_))
      | (refine at_op (.store 86 (.tmp 2) (.tmp 86)) rfl ?_; go_must (refine wpList_stB rfl 86 (.tmp 2) (.tmp 86) rfl (w.heap.size + 1) 0 rfl L4 rfl B2 (by rw [rrZ_len]; omega) (by rw [L4l]; exact rrInfo) L4c.out ?_)))
    intro w6 hb6 hg6 hs6
    rw [List.drop_of_length_le (by rw [rrZ_len]; omega), List.append_nil] at hb6
    have HB6 : Below w.heap.size w w6 := below_grown HB hg6 HB.size (by omega)
    clear hg6
    go_wp2_with fail
    refine ret_cell_tmp rfl (w.heap.size + 1) rfl hb6 _ Try.underlying86 rfl (by rw [L4l]; exact rrInfo) rfl _ rfl ?_
    exact RetB.mk rfl HB6
end Go.Proofs.Ytlmgdogblbigpaa
