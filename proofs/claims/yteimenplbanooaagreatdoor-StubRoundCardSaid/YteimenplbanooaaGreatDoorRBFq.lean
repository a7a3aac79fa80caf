/-
  Layer 9: mapped, Unmap.
-/
import Derived.Test.YteimenplbanooaaGreatDoorRBEq
import Derived.Test.YteimenplbanooaaGreatDoorSd5q
namespace Go.Proofs.YteimenplbanooaaGreatDoor
open _root_.Go.Proofs.Tryz
open Go.RowKit
set_option maxRecDepth 100000
set_option linter.unusedVariables false
set_option linter.unusedSimpArgs false
def ahB : List Int := [0, 0, 0, 0, 0, 0, 0, 0, 0, 0, 255, 255]
def Ah (w : World) : Prop := w.rangeAt 0 0 (ahB.map (Value.int .u8))
theorem Ah.below {w w' : World} (h : Ah w) (hb : Below w.heap.size w w') : Ah w' := fun j v hv => by
 have := h j v hv
 exact (hb.cell (World.block_lt_of_cell? _ _ this)).trans this
theorem sl12_a (g : Nat) (V : World) : (Instr.sliceAt 212 (.pointer (some ⟨g, 0, none⟩)) none none none).run prog V = .ok (.slice (some ⟨g, 0, none⟩) 12 12) V := by
 have hal : prog.arrayLen 212 = 12 := by kernel_rfl
 rw [run_sliceAt_array_all V 212 ⟨g, 0, none⟩ (by simp [Program.arrayLen, Program.elem, underlying212])]
 have he : prog.elem 212 = 5 := by kernel_rfl
 have hsz : (sizeOf (prog.elem 212)).run prog V = .ok 1 V := by rw [he]; exact size_u8 V
 rw [hsz, Result.andThen_ok, hal]
 unfold slicedAt
 rw [if_neg (by decide), Lib.add_plain]
theorem sl16_a (g : Nat) (V : World) : (Instr.sliceAt 22 (.pointer (some ⟨g, 1, none⟩)) none none none).run prog V = .ok (.slice (some ⟨g, 1, none⟩) 16 16) V := by
 have hal : prog.arrayLen 22 = 16 := by kernel_rfl
 rw [run_sliceAt_array_all V 22 ⟨g, 1, none⟩ (by simp [Program.arrayLen, Program.elem, underlying22])]
 have he : prog.elem 22 = 5 := by kernel_rfl
 have hsz : (sizeOf (prog.elem 22)).run prog V = .ok 1 V := by rw [he]; exact size_u8 V
 rw [hsz, Result.andThen_ok, hal]
 unfold slicedAt
 rw [if_neg (by decide), Lib.add_plain]
theorem sl16_l (g : Nat) (V : World) : (Instr.sliceAt 22 (.pointer (some ⟨g, 1, none⟩)) (some (.int .i64 12)) none none).run prog V = .ok (.slice (some ⟨g, 13, none⟩) 4 4) V := by
 have hal : prog.arrayLen 22 = 16 := by kernel_rfl
 rw [run_sliceAt_array_l V 22 ⟨g, 1, none⟩ (by simp [Program.arrayLen, Program.elem, underlying22]) .i64 (12 : Int) (by omega) (by rw [hal]; omega)]
 have he : prog.elem 22 = 5 := by kernel_rfl
 have hsz : (sizeOf (prog.elem 22)).run prog V = .ok 1 V := by rw [he]; exact size_u8 V
 rw [hsz, Result.andThen_ok, hal]
 unfold slicedAt
 rw [if_neg (by decide), Lib.add_plain]
 rfl
theorem exec_cpy8 {o : Oper} {a : Act} {w w' : World} (d x : Operand) (ho : o.op = .call { callee := .builtin .copy, args := #[d, x], argTypes := #[131, 131] }) {vd vx v : Value} (hd : a.eval d = vd) (hx : a.eval x = vx) (hr : (Builtin.copy_ #[131, 131] o.type #[vd, vx]).run prog w = .ok v w') : (execOp a.eval o).run prog w = .ok (.value v) w' := by
 unfold execOp
 simp only [ho, resolve, invoke, builtin, Sem.run_bind, Sem.run_pure, Result.andThen_ok, List.map_toArray, List.map_cons, List.map_nil, hd, hx, hr]
theorem run_cpy8 (w : World) (ty : TypeId) (g off dl dc g2 o2 sl sc : Nat) {t t2 : TypeId} {L L2 cs : List Value} (hb : Blk w g t L) (hb2 : Blk w g2 t2 L2) (hcs : cs = (L2.drop o2).take cs.length) (hn : cs.length = Nat.min sl dl) (hfit : off + cs.length ≤ L.length) (h1 : ∀ v ∈ cs, v.oneCell' = true) :
  ∃ w', (Builtin.copy_ #[131, 131] ty #[.slice (some ⟨g, off, none⟩) dl dc, .slice (some ⟨g2, o2, none⟩) sl sc]).run prog w = .ok (goInt cs.length) w' ∧ Blk w' g t (L.take off ++ cs ++ L.drop (off + cs.length)) ∧ w.grownBy w' (some g) := by
 have hr := run_copy_row (P := prog) w 131 131 ty 5 g off dl dc ⟨g2, o2, none⟩ sl sc L.toArray t cs underlying131 byteSize hb hn (fun j v hv => by
  have hadd : (⟨g2, o2, none⟩ : Addr).add j = ⟨g2, o2 + j, none⟩ := by unfold Addr.add; split <;> simp_all
  rw [hadd]
  refine hb2.cell_ _ ?_
  rw [hcs, List.getElem?_take] at hv
  split at hv
  ·
   rw [List.getElem?_drop] at hv; exact hv
  ·
   cases hv) (by simpa using hfit) h1
 exact ⟨_, hr, setRow_blk hb _, grown_setRow (World.grownBy.refl _ _) _⟩
theorem ar12I : (prog.info? 212).map (·.size) = some 12 := by kernel_rfl
def z12 : List Value := List.replicate 12 (.int .u8 0)
def BolRet (w : World) (e : Ending) (w' : World) : Prop := ∃ b, e = .returned (.bool b) ∧ Below w.heap.size w w'
set_option maxHeartbeats 2000000 in
theorem mapped_any (a : Adr) (h16 : a.ip.length = 16) (hf : a.fam = 4 ∨ a.fam = 6) (w : World) (hA : Ah w) : Calls prog 69 #[.agg a.cells.toArray] w (BolRet w) := by
 have hql : a.cells.length = 18 := a.cells_len h16
 have hqo : ∀ v ∈ a.cells, v.oneCell' = true := a.cells_one
 have hc0 : a.cells[0]? = some (.int .i64 a.fam) := rfl
 have hcx : (a.cells.drop 1).take 12 = ((a.ip.take 12).map (fun c : UInt8 => (c.toNat : Int))).map (Value.int .u8) := by
  have e : a.cells.drop 1 = octs a.ip ++ [.int .i64 a.zone] := rfl
  rw [e, List.take_append_of_le_length (by rw [octs_length]; omega), octs_map, ← List.map_take, ← List.map_take]
 have hxl : ((a.ip.take 12).map (fun c : UInt8 => (c.toNat : Int))).length = 12 := by simp [h16]
 have EQ : Hid (∀ V, (Op.equalIn 10000 212 (.agg (((a.ip.take 12).map (fun c : UInt8 => (c.toNat : Int))).map (Value.int .u8)).toArray) (.agg (ahB.map (Value.int .u8)).toArray)).run prog V = .ok ((a.ip.take 12).map (fun c : UInt8 => (c.toNat : Int)) == ahB) V) := Hh (fun V => run_equalIn_ints V 9998 212 5 12 .u8 underlying212 underlying5 size_u8 _ _ hxl rfl)
 generalize ((a.ip.take 12).map (fun c : UInt8 => (c.toNat : Int)) == ahB) = q at *
 obtain ⟨X, hX⟩ : ∃ X, Hid (((a.ip.take 12).map (fun c : UInt8 => (c.toNat : Int))).map (Value.int .u8) = X) := ⟨_, Hh rfl⟩
 have hXl : X.length = 12 := by rw [← hX.out, List.length_map]; exact hxl
 have hXo : ∀ v ∈ X, v.oneCell' = true := by
  rw [← hX.out]; intro v hv; obtain ⟨n, _, rfl⟩ := List.mem_map.1 hv; rfl
 obtain ⟨Y, hY⟩ : ∃ Y, Hid (ahB.map (Value.int .u8) = Y) := ⟨_, Hh rfl⟩
 have hYl : Y.length = 12 := by rw [← hY.out]; rfl
 have HA := Hh (fun V (hV : Below w.heap.size w V) => hA.below hV)
 unfold Ah at HA
 rw [hX.out, hY.out] at EQ
 rw [hX.out] at hcx
 rw [hY.out] at HA
 clear hX hY hxl hA
 generalize a.fam = f at *
 generalize a.cells = qc at *
 have B1 : Blk (w.alloc (.cells qc.toArray 24)) w.heap.size 24 qc := Blk.new w _ _
 have B2 : Blk ((w.alloc (.cells qc.toArray 24)).alloc (.cells z12.toArray 212)) (w.heap.size + 1) 212 z12 := Blk.new' _ _ _ _ (by simp)
 have B1' := B1.alloc (.cells z12.toArray 212)
 have BB : Below w.heap.size w ((w.alloc (.cells qc.toArray 24)).alloc (.cells z12.toArray 212)) := ((Below.refl _ _).alloc (Nat.le_refl _) _).alloc (by simp) _
 obtain ⟨w2, hc2, Bc, gc⟩ := run_cpy8 ((w.alloc (.cells qc.toArray 24)).alloc (.cells z12.toArray 212)).drew 3 (w.heap.size + 1) 0 12 12 w.heap.size 1 16 16 B2.drew B1'.drew (cs := X) (by rw [hXl]; exact hcx.symm) (by rw [hXl]; rfl) (by rw [hXl]; decide) hXo
 have Bx : Blk w2 (w.heap.size + 1) 212 X := blkAll Bc (by rw [hXl]; decide)
 have Ba := B1'.drew.grown gc (by simp)
 have S2 := below_grown BB.drew gc BB.drew.size (by omega)
 have HC2 := Hh hc2
 have s12 := sl12_a (w.heap.size + 1)
 have s16 := sl16_a w.heap.size
 clear B1 B2 B1' Bc gc hc2 BB
 go_enter func69, ntmps69
 go_wp2_with fail
 refine wp_region_held_drew (S := fun V => True) (by kernel_rfl) trivial (fun hS => ?_)
 refine held_seq hS 3 [0, 1, 2] rfl (by kernel_rfl) (fun _ _ _ _ _ h => h) rfl rfl ?_
 (refine ⟨_, (.slice (some ⟨w.heap.size + 1, 0, none⟩) 12 12), rfl, .inl ⟨rfl, fun V hV => (by go_simp)⟩, ?_⟩; simp only [Act.put, lsA, lsB, lsC])
 (refine ⟨_, (.pointer (some ⟨w.heap.size, 1, none⟩)), rfl, .inl ⟨rfl, fun V hV => rfl⟩, ?_⟩; simp only [Act.put, lsA, lsB, lsC])
 (refine ⟨_, (.slice (some ⟨w.heap.size, 1, none⟩) 16 16), rfl, .inl ⟨rfl, fun V hV => (by go_simp)⟩, ?_⟩; simp only [Act.put, lsA, lsB, lsC])
 simp only [SeqC]
 refine held_run 3 (some 7) (by kernel_rfl) rfl rfl (by kernel_rfl) (exec_cpy8 (.tmp 4) (.tmp 6) rfl rfl rfl HC2.out) trivial ?_
 simp only [Act.put, lsA, lsB, lsC]
 refine wpAnyH_done (by kernel_rfl) ?_ _
 have d0 := Ba.cell_ 0 hc0
 have RY := Hh (HA.out w2 S2)
 clear HC2 hS
 rcases hf with rfl | rfl
 ·
  clear EQ RY
  go_wp2_with fail
  go_ret
  exact ⟨_, rfl, S2⟩
 ·
  have EQ3 := EQ.out w2
  go_wp2_with (first
   | (refine at_op (.load 212 (.tmp 3)) rfl ?_; go_must (refine wpList_ldG 212 (.tmp 3) rfl (by go_simp) (w.heap.size + 1) 0 rfl Bx 12 (by omega) _ underlying212 rfl ar12I X (tk0 (by omega)) ?_))
   | (refine at_op (.load 212 (.global 0)) rfl ?_; go_must (refine wpList_exG (v := .agg Y.toArray) (by go_simp) (exec_ld 212 _ ⟨0, 0, none⟩ rfl rfl (run_loadAt_mid _ _ 0 _ Y _ RY.out underlying212 rfl (by rw [hYl]; exact ar12I))) ?_)))
  go_ret
  exact ⟨_, rfl, S2⟩
def AnyA (w : World) (e : Ending) (w' : World) : Prop := ∃ cs : List Value, e = .returned (.agg cs.toArray) ∧ cs.length = 18 ∧ (∀ v ∈ cs, v.oneCell' = true) ∧ Below w.heap.size w w'
def am4 : List Value := .int .i64 4 :: (List.replicate 16 (.int .u8 0) ++ [.int .i64 0])
set_option maxHeartbeats 2000000 in
theorem unmap_any (a : Adr) (h16 : a.ip.length = 16) (hf : a.fam = 4 ∨ a.fam = 6) (w : World) (hA : Ah w) : Calls prog 22 #[.agg a.cells.toArray] w (AnyA w) := by
 have hql : a.cells.length = 18 := a.cells_len h16
 have hqo : ∀ v ∈ a.cells, v.oneCell' = true := a.cells_one
 have MP := Hh (fun V (hV : Below w.heap.size w V) => mapped_any a h16 hf V (hA.below hV))
 clear hf
 generalize a.cells = qc at *
 have B1 : Blk (w.alloc (.cells qc.toArray 24)) w.heap.size 24 qc := Blk.new w _ _
 have B2 := Blk.newA (w.alloc (.cells qc.toArray 24)) (w.heap.size + 1) (by simp)
 have B1' := B1.alloc (.cells adrZ.toArray 24)
 have BB : Below w.heap.size w ((w.alloc (.cells qc.toArray 24)).alloc (.cells adrZ.toArray 24)) := ((Below.refl _ _).alloc (Nat.le_refl _) _).alloc (by simp) _
 have qI : (prog.info? 24).map (·.size) = some qc.length := by rw [hql]; exact adrInfo
 clear B1
 go_enter func22, ntmps22
 go_wp2_with (refine at_op (.load 24 (.tmp 1)) rfl ?_; go_must (refine wpList_ldB rfl _ _ rfl w.heap.size 0 rfl B1' 18 (by omega) _ underlying24 rfl adrInfo qc (tk0 (by omega)) ?_))
 refine (MP.out _ BB).mono ?_
 rintro _ w1 ⟨b, rfl, b1⟩
 have C1 := B1'.below b1 B1'.lt
 have C2 := B2.below b1 B2.lt
 have S1 := below_then BB BB.size b1
 clear MP B1' B2 BB b1
 cases b with
 | false =>
  go_wp2_with (first
   | (refine at_op (.load 24 (.tmp 1)) rfl ?_; go_must (refine wpList_ldB rfl _ _ rfl w.heap.size 0 rfl C1 18 (by omega) _ underlying24 rfl adrInfo qc (tk0 (by omega)) ?_))
   | (refine at_op (.store 24 (.tmp 2) (.tmp 7)) rfl ?_; go_must (refine wpList_stB rfl _ _ _ rfl (w.heap.size + 1) 0 rfl qc rfl C2 (by rw [hql]; exact Nat.le_refl 18) qI hqo ?_)))
  intro w2 B g _
  have X : Blk w2 (w.heap.size + 1) 24 qc := blkAll B (by have : adrZ.length = 18 := rfl; omega)
  have S := below_grown S1 g S1.size (by omega)
  clear B g C1 C2 S1
  go_wp2_with fail
  refine ret_cell rfl (w.heap.size + 1) rfl X _ underlying24 rfl qI rfl ?_
  exact ⟨qc, rfl, hql, hqo, S⟩
 | true =>
  have B3 := Blk.newA w1 w1.heap.size rfl
  have Q3 : Below w1.heap.size w1 (w1.alloc (.cells adrZ.toArray 24)) := (Below.refl _ _).alloc (Nat.le_refl _) _
  go_wp2_with (refine at_op (.store 24 (.tmp 3) (.tmp 8)) rfl ?_; go_must (refine wpList_stB rfl _ _ _ rfl w1.heap.size 0 rfl am4 rfl B3 (Nat.le_refl 18) adrInfo (by intro v hv; simp [am4] at hv; rcases hv with rfl | rfl | rfl <;> rfl) ?_))
  intro w2 B g _
  have X3 : Blk w2 w1.heap.size 24 am4 := B
  have Q2 := below_grown Q3 g Q3.size (Nat.le_refl _)
  have D1 := C1.below Q2 C1.lt
  have D2 := C2.below Q2 C2.lt
  have S2 := below_then S1 S1.size Q2
  have lt1 := C1.lt
  have lt2 := C2.lt
  obtain ⟨cs, hcs⟩ : ∃ cs, Hid (((qc.drop 13).take 4) = cs) := ⟨_, Hh rfl⟩
  have hcl : cs.length = 4 := by rw [← hcs.out]; simp [hql]
  have hco : ∀ v ∈ cs, v.oneCell' = true := by rw [← hcs.out]; exact fun v hv => hqo v (List.mem_of_mem_drop (List.mem_of_mem_take hv))
  obtain ⟨w3, hc3, Bc, gc⟩ := run_cpy8 w2.drew 3 w1.heap.size 1 16 16 w.heap.size 13 4 4 X3.drew D1.drew (cs := cs) (by rw [hcl]; exact hcs.out.symm) (by rw [hcl]; rfl) (by rw [hcl]; decide) hco
  obtain ⟨L3, hL3⟩ : ∃ L3, Hid (am4.take 1 ++ cs ++ am4.drop (1 + cs.length) = L3) := ⟨_, Hh rfl⟩
  have hl3 : L3.length = 18 := by rw [← hL3.out]; simp [hcl, am4]
  have ho3 : ∀ v ∈ L3, v.oneCell' = true := by
   have h0 : ∀ v ∈ am4, v.oneCell' = true := by intro v hv; simp [am4] at hv; rcases hv with rfl | rfl | rfl <;> rfl
   rw [← hL3.out]
   intro v hv
   rcases List.mem_append.1 hv with hv | hv
   ·
    rcases List.mem_append.1 hv with hv | hv
    ·
     exact h0 v (List.mem_of_mem_take hv)
    ·
     exact hco v hv
   ·
    exact h0 v (List.mem_of_mem_drop hv)
  rw [hL3.out] at Bc
  have E2 := D2.drew.grown gc (by simp; omega)
  have S3 := below_grown S2.drew gc S2.drew.size (by omega)
  have HC := Hh hc3
  have s16 := sl16_a w1.heap.size
  have s4 := sl16_l w.heap.size
  have lI : (prog.info? 24).map (·.size) = some L3.length := by rw [hl3]; exact adrInfo
  clear B g B3 Q3 Q2 X3 C1 C2 D1 D2 S1 S2 gc hc3
  go_wp2_with fail
  refine wp_region_held_drew (S := fun V => True) (by kernel_rfl) trivial (fun hS => ?_)
  refine held_seq hS 4 [0, 1, 2, 3] rfl (by kernel_rfl) (fun _ _ _ _ _ h => h) rfl rfl ?_
  (refine ⟨_, (.pointer (some ⟨w1.heap.size, 1, none⟩)), rfl, .inl ⟨rfl, fun V hV => rfl⟩, ?_⟩; simp only [Act.put, lsA, lsB, lsC])
  (refine ⟨_, (.slice (some ⟨w1.heap.size, 1, none⟩) 16 16), rfl, .inl ⟨rfl, fun V hV => (by go_simp)⟩, ?_⟩; simp only [Act.put, lsA, lsB, lsC])
  (refine ⟨_, (.pointer (some ⟨w.heap.size, 1, none⟩)), rfl, .inl ⟨rfl, fun V hV => rfl⟩, ?_⟩; simp only [Act.put, lsA, lsB, lsC])
  (refine ⟨_, (.slice (some ⟨w.heap.size, 13, none⟩) 4 4), rfl, .inl ⟨rfl, fun V hV => (by go_simp)⟩, ?_⟩; simp only [Act.put, lsA, lsB, lsC])
  simp only [SeqC]
  refine held_run 4 (some 13) (by kernel_rfl) rfl rfl (by kernel_rfl) (exec_cpy8 (.tmp 10) (.tmp 12) rfl rfl rfl HC.out) trivial ?_
  simp only [Act.put, lsA, lsB, lsC]
  refine wpAnyH_done (by kernel_rfl) ?_ _
  clear HC hS s16 s4
  go_wp2_with (first
   | (refine at_op (.load 24 (.tmp 3)) rfl ?_; go_must (refine wpList_ldB rfl _ _ rfl w1.heap.size 0 rfl Bc 18 (by omega) _ underlying24 rfl adrInfo L3 (tk0 (by omega)) ?_))
   | (refine at_op (.store 24 (.tmp 2) (.tmp 14)) rfl ?_; go_must (refine wpList_stB rfl _ _ _ rfl (w.heap.size + 1) 0 rfl L3 rfl E2 (by rw [hl3]; exact Nat.le_refl 18) lI ho3 ?_)))
  intro w4 B g _
  have X : Blk w4 (w.heap.size + 1) 24 L3 := blkAll B (by have : adrZ.length = 18 := rfl; omega)
  have S := below_grown S3 g S3.size (by omega)
  clear B g Bc E2 S3
  go_wp2_with fail
  refine ret_cell rfl (w.heap.size + 1) rfl X _ underlying24 rfl lI rfl ?_
  exact ⟨L3, rfl, hl3, ho3, S⟩
theorem service_any (A : Option Addr) (n c p : Nat) (hp : p ≤ 65535) (w : World) (hT : Tb w) : Calls prog 23 #[.slice A n c, .int .i64 (p : Int), .int .i64 3] w (RetB (.string (bs (Lib.itoa (p : Int)))) w) := by
 have DG := Hh (digits_any (p : Int) (by omega) (by omega) w hT)
 have a8 : bits .and .i64 3 8 = 0 := rfl
 have a2 : bits .and .i64 3 2 = 2 := rfl
 go_enter func23, ntmps23
 go_wp2_with fail
 refine DG.out.mono ?_
 rintro _ w1 ⟨rfl, b1⟩
 go_wp2_with fail
 go_ret
 exact RetB.mk rfl b1
def nmTl (se : List UInt8) : List Value := [.bool false, .string (bs se), .int .i64 0, .pointer none, .int .i64 0, .int .i64 0, .pointer none, .slice none 0 0, .int .i64 0, .bool false, .int .i64 0, .slice none 0 0]
set_option maxHeartbeats 2000000 in
theorem nmBld (CS ac uc : List Value) (h1 : CS.length = 13) (h2 : ac.length = 18) (h3 : uc.length = 18) (W : World) : (Instr.build 83 #[(0, .agg CS.toArray), (1, .agg ac.toArray), (2, .agg uc.toArray), (3, .bool false), (5, .int .i64 0), (6, .pointer none)]).run prog W = .ok (.agg (CS ++ ac ++ uc ++ nmTl []).toArray) W := by
 match CS, h1 with
 | [c0, c1, c2, c3, c4, c5, c6, c7, c8, c9, c10, c11, c12], _ =>
  match ac, h2 with
  | [a0, a1, a2, a3, a4, a5, a6, a7, a8, a9, a10, a11, a12, a13, a14, a15, a16, a17], _ =>
   match uc, h3 with
   | [u0, u1, u2, u3, u4, u5, u6, u7, u8, u9, u10, u11, u12, u13, u14, u15, u16, u17], _ =>
    show _ = _
    kernel_rfl
def GnRet (ho se : List UInt8) (w : World) (e : Ending) (w' : World) : Prop := ∃ g, e = .returned (.tuple #[.pointer (some ⟨g, 0, none⟩), .slice none 0 0]) ∧ Blk w' g 91 ([.nilIface, .nilFunc, .bool true] ++ zrC 0 none 0 0 [] ho se) ∧ Below w.heap.size w w'
theorem zrBld (ho se : List UInt8) (W : World) : (Instr.build 46 #[(3, .string (bs ho)), (4, .string (bs se))]).run prog W = .ok (.agg (zrC 0 none 0 0 [] ho se).toArray) W := by kernel_rfl
set_option maxHeartbeats 4000000 in
theorem gni_any (a : Adr) (h16 : a.ip.length = 16) (hc : a.check = 0) (hf : a.fam = 4 ∨ a.fam = 6) (hz : a.zone ≤ 9223372036854775807) (p : Nat) (hp : p ≤ 65535) (w : World) (hT : Tb w) (hA : Ah w) : Calls prog 7 #[.agg cf43.toArray, .agg a.cells.toArray, .int .i64 (p : Int), .int .i64 3, .int .i64 0, .pointer none] w (GnRet (adrT a) (Lib.itoa (p : Int)) w) := by
 have HE := Hh (fun V => heldZ_any V)
 have CK := Hh (fun V => addrCheck_any a h16 V)
 have UM := Hh (fun V (hV : Below w.heap.size w V) => unmap_any a h16 hf V (hA.below hV))
 have SV := Hh (fun A n c V (hV : Below w.heap.size w V) => service_any A n c p hp V (hT.below hV))
 have TX := Hh (fun V (hV : Below w.heap.size w V) => adrText_any a h16 hz V (hT.below hV))
 have OV := Hh (fun ho se V => sover_any 0 none 0 0 [] ho se V)
 have ZB := Hh (fun ho se W => zrBld ho se W)
 have NB := Hh (fun CS uc (h1 : CS.length = 13) (h3 : uc.length = 18) W => nmBld CS a.cells uc h1 (a.cells_len h16) h3 W)
 rw [hc] at CK
 have hql : a.cells.length = 18 := a.cells_len h16
 have hqo : ∀ v ∈ a.cells, v.oneCell' = true := a.cells_one
 generalize Lib.itoa (p : Int) = se at *
 generalize adrT a = ho at *
 generalize a.cells = qc at *
 have p0 : ¬ ((p : Int) < 0) := by omega
 have p1 : ¬ ((65535 : Int) < p) := by omega
 have a4 : bits .and .i64 3 4 = 0 := rfl
 have a1 : bits .and .i64 3 1 = 1 := rfl
 have C6 : Blk (w.alloc (.cells cf43.toArray 42)) w.heap.size 42 cf43 := Blk.new w _ _
 have A7 := Blk.new' (w.alloc (.cells cf43.toArray 42)) 24 qc (w.heap.size + 1) (by simp)
 have C6' := C6.alloc (.cells qc.toArray 24)
 have BB : Below w.heap.size w ((w.alloc (.cells cf43.toArray 42)).alloc (.cells qc.toArray 24)) := ((Below.refl _ _).alloc (Nat.le_refl _) _).alloc (by simp) _
 clear C6 hT hA hc hf hz h16
 go_enter func7, ntmps7
 go_wp2_with (refine at_op (.load 42 (.tmp 6)) rfl ?_; go_must (refine wpList_ldB rfl _ _ rfl w.heap.size 0 rfl C6' 13 (by decide) _ underlying42 rfl cfgI13 cf43 rfl ?_))
 refine (HE.out _).mono ?_
 rintro _ w1 ⟨CS, rfl, hz, b1⟩
 have c13 := hz.len
 have c1 := hz.one
 obtain ⟨A12, k12, e12⟩ := hz.at12
 have C1 := C6'.below b1 C6'.lt
 have A1 := A7.below b1 A7.lt
 have S1 := below_then BB BB.size b1
 have cfI : (prog.info? 42).map (·.size) = some CS.length := by rw [c13]; exact cfgI13
 clear HE C6' A7 BB b1 hz
 go_wp2_with (refine at_op (.store 42 (.tmp 6) (.tmp 17)) rfl ?_; go_must (refine wpList_stB rfl _ _ _ rfl w.heap.size 0 rfl CS rfl C1 (by rw [c13]; decide) cfI c1 ?_))
 intro w2 B2 g2 _
 have C2 : Blk w2 w.heap.size 42 CS := blkAll B2 (by first | decide | (rw [c13]; decide))
 have A2 := A1.grown g2 (by simp)
 have S2 := below_grown S1 g2 S1.size (Nat.le_refl _)
 clear B2 g2 C1 A1 S1 c1 cfI
 go_wp2_with (refine at_op (.load 24 (.tmp 7)) rfl ?_; go_must (refine wpList_ldB rfl _ _ rfl (w.heap.size + 1) 0 rfl A2 18 (by omega) _ underlying24 rfl adrInfo qc (tk0 (by omega)) ?_))
 refine (CK.out _).mono ?_
 rintro _ w3 ⟨rfl, b3⟩
 have C3 := C2.below b3 C2.lt
 have A3 := A2.below b3 A2.lt
 have S3 := below_then S2 S2.size b3
 have lt1 := A3.lt
 clear C2 A2 S2 b3 CK
 go_wp2_with fail
 refine wp_region_held_drew (S := fun V => Blk V w.heap.size 42 CS ∧ Blk V (w.heap.size + 1) 24 qc ∧ Below w3.heap.size w3 V) (by kernel_rfl) ⟨C3.drew, A3.drew, (Below.refl _ _).drew⟩ (fun hS => ?_)
 refine held_seq hS 8 [0, 1, 2, 4, 5, 6, 7, 8] rfl (by kernel_rfl) (fun _ _ _ _ _ h => h) rfl rfl ?_
 (refine ⟨_, _, rfl, .inl ⟨rfl, fun V hV => (exec_ld 42 (.tmp 6) ⟨w.heap.size, 0, none⟩ rfl rfl (hV.1.loads 42 0 13 (by omega) _ underlying42 rfl cfgI13 CS (tk0 (by omega))))⟩, ?_⟩; simp only [Act.put, lsA, lsB, lsC])
 (refine ⟨_, _, rfl, .inl ⟨rfl, fun V hV => (exec_ld 24 (.tmp 7) ⟨w.heap.size + 1, 0, none⟩ rfl rfl (hV.2.1.loads 24 0 18 (by omega) _ underlying24 rfl adrInfo qc (tk0 (by omega))))⟩, ?_⟩; simp only [Act.put, lsA, lsB, lsC])
 (refine ⟨_, _, rfl, .inl ⟨rfl, fun V hV => (exec_ld 24 (.tmp 7) ⟨w.heap.size + 1, 0, none⟩ rfl rfl (hV.2.1.loads 24 0 18 (by omega) _ underlying24 rfl adrInfo qc (tk0 (by omega))))⟩, ?_⟩; simp only [Act.put, lsA, lsB, lsC])
 (refine ⟨_, (.int .i64 3), rfl, .inl ⟨rfl, fun V hV => rfl⟩, ?_⟩; simp only [Act.put, lsA, lsB, lsC])
 (refine ⟨_, (.int .i64 0), rfl, .inl ⟨rfl, fun V hV => (by go_simp)⟩, ?_⟩; simp only [Act.put, lsA, lsB, lsC])
 (refine ⟨_, (.bool false), rfl, .inl ⟨rfl, fun V hV => (by go_simp)⟩, ?_⟩; simp only [Act.put, lsA, lsB, lsC])
 (refine ⟨_, (.int .i64 0), rfl, .inl ⟨rfl, fun V hV => rfl⟩, ?_⟩; simp only [Act.put, lsA, lsB, lsC])
 (refine ⟨_, (.pointer none), rfl, .inl ⟨rfl, fun V hV => rfl⟩, ?_⟩; simp only [Act.put, lsA, lsB, lsC])
 simp only [SeqC]
 refine held_call 3 (some 45) 22 #[.agg qc.toArray] (by kernel_rfl) rfl rfl (by kernel_rfl) (by go_simp) (UM.out _ (below_then S3 S3.size hS.2.2)) ?_
 rintro _ w4 ⟨uc, rfl, hul, huo, b4⟩
 have hS4 : Blk w4 w.heap.size 42 CS ∧ Blk w4 (w.heap.size + 1) 24 qc ∧ Below w3.heap.size w3 w4 := ⟨hS.1.below b4 hS.1.lt, hS.2.1.below b4 hS.2.1.lt, below_then hS.2.2 hS.2.2.size b4⟩
 refine ⟨_, rfl, hS4, ?_⟩
 clear hS b4 UM
 have hS := hS4
 clear hS4
 simp only [Act.put, lsA, lsB, lsC]
 obtain ⟨L, hL⟩ : ∃ L, Hid (CS ++ qc ++ uc ++ nmTl [] = L) := ⟨_, Hh rfl⟩
 have hLl : L.length = 61 := by rw [← hL.out]; simp [c13, hql, hul, nmTl]
 have hL49 : L[49]? = some (.bool false) := by
  rw [← hL.out, List.getElem?_append_right (by simp [c13, hql, hul])]
  simp [c13, hql, hul, nmTl]
 have NB1 := Hh (NB.out CS uc c13 hul)
 rw [hL.out] at NB1
 refine held_seq hS 1 [9] rfl (by kernel_rfl) (fun _ _ _ _ _ h => h) rfl rfl ?_
 (refine ⟨_, (.agg L.toArray), rfl, .inl ⟨rfl, fun V hV => (exec_bldH 83 _ rfl #[(0, .agg CS.toArray), (1, .agg qc.toArray), (2, .agg uc.toArray), (3, .bool false), (5, .int .i64 0), (6, .pointer none)] (by kernel_rfl) (NB1.out V))⟩, ?_⟩; simp only [Act.put, lsA, lsB, lsC])
 simp only [SeqC]
 have hS5 : Blk (w4.alloc (.cells L.toArray 83)) w.heap.size 42 CS ∧ Blk (w4.alloc (.cells L.toArray 83)) (w.heap.size + 1) 24 qc ∧ Below w3.heap.size w3 (w4.alloc (.cells L.toArray 83)) := ⟨hS.1.alloc _, hS.2.1.alloc _, hS.2.2.alloc hS.2.2.size _⟩
 refine held_run 10 (some 52) (w' := w4.alloc (.cells L.toArray 83)) (v := .pointer (some ⟨w4.heap.size, 0, none⟩)) (by kernel_rfl) rfl rfl (by kernel_rfl) (by go_simp) hS5 ?_
 have hw34 : w3.heap.size ≤ w4.heap.size := hS.2.2.size
 clear hS
 have hS := hS5
 simp only [Act.put, lsA, lsB, lsC]
 refine held_seq hS 1 [11] rfl (by kernel_rfl) (fun _ _ _ _ _ h => h) rfl rfl ?_
 (refine ⟨_, (.pointer (some ⟨w4.heap.size, 0, none⟩)), rfl, .inl ⟨rfl, fun V hV => rfl⟩, ?_⟩; simp only [Act.put, lsA, lsB, lsC])
 simp only [SeqC]
 refine wpAnyH_done (by kernel_rfl) ?_ _
 have N5 : Blk (w4.alloc (.cells L.toArray 83)) w4.heap.size 83 L := Blk.new w4 _ _
 have A5 := hS5.2.1
 have S5 := below_then S3 S3.size hS5.2.2
 have d12 := hS5.1.cell_ 12 e12
 have hw3 := S3.size
 clear hS hS5 S3 C3 A3 NB NB1 hL huo hul e12
 generalize w4.alloc (.cells L.toArray 83) = W5 at *
 obtain ⟨gn, hgn⟩ : ∃ gn, Hid (w4.heap.size = gn) := ⟨_, Hh rfl⟩
 rw [hgn.out] at N5 hw34 ⊢
 have hlo : w.heap.size + 1 < gn := by omega
 clear hw34 hw3 lt1 hgn
 go_wp2_with fail
 refine (SV.out _ _ _ _ S5).mono ?_
 rintro _ w6 ⟨rfl, b6⟩
 have N6 := N5.below b6 N5.lt
 have A6 := A5.below b6 A5.lt
 have S6 := below_then S5 S5.size b6
 clear SV N5 A5 S5 d12 b6
 go_wp2_with (refine at_op (.store 9 (.tmp 60) (.tmp 58)) rfl ?_; go_must (refine wpList_stC rfl 9 (.tmp 60) (.tmp 58) rfl gn 50 rfl (.string (bs se)) rfl N6 (by omega) (by kernel_rfl) rfl rfl ?_))
 intro w7 B7 g7 _
 have A7 := A6.grown g7 (by simp; omega)
 have S7 := below_grown S6 g7 S6.size (by omega)
 have d49 : w7.cell? ⟨gn, 49, none⟩ = some (.bool false) := B7.cell_ 49 (by rw [List.getElem?_set_ne (by decide)]; exact hL49)
 have h50 : (L.set 50 (.string (bs se)))[50]? = some (.string (bs se)) := by simp [hLl]
 obtain ⟨L7, hL7⟩ : ∃ L7, Hid (L.set 50 (.string (bs se)) = L7) := ⟨_, Hh rfl⟩
 rw [hL7.out] at B7 h50
 clear g7 N6 A6 S6 hL49 hL7
 have S7w := S7.size
 go_wp2_with fail
 refine wp_region_held_drew (S := fun V => Blk V gn 83 L7 ∧ Blk V (w.heap.size + 1) 24 qc ∧ Below w7.heap.size w7 V) (by kernel_rfl) ⟨B7.drew, A7.drew, (Below.refl _ _).drew⟩ (fun hS => ?_)
 refine held_seq hS 5 [0, 2, 3, 4, 5] rfl (by kernel_rfl) (fun _ _ _ _ _ h => h) rfl rfl ?_
 (refine ⟨_, _, rfl, .inl ⟨rfl, fun V hV => (exec_ld 24 (.tmp 7) ⟨w.heap.size + 1, 0, none⟩ rfl rfl (hV.2.1.loads 24 0 18 (by omega) _ underlying24 rfl adrInfo qc (tk0 (by omega))))⟩, ?_⟩; simp only [Act.put, lsA, lsB, lsC])
 (refine ⟨_, (.pointer (some ⟨gn, 0, none⟩)), rfl, .inl ⟨rfl, fun V hV => rfl⟩, ?_⟩; simp only [Act.put, lsA, lsB, lsC])
 (refine ⟨_, (.pointer (some ⟨gn, 0, none⟩)), rfl, .inl ⟨rfl, fun V hV => rfl⟩, ?_⟩; simp only [Act.put, lsA, lsB, lsC])
 (refine ⟨_, (.pointer (some ⟨gn, 50, none⟩)), rfl, .inl ⟨rfl, fun V hV => rfl⟩, ?_⟩; simp only [Act.put, lsA, lsB, lsC])
 (refine ⟨_, _, rfl, .inl ⟨rfl, fun V hV => (exec_ld 9 (.tmp 74) ⟨gn, 50, none⟩ rfl rfl (run_load1 underlying9 rfl (hV.1.cell_ 50 h50)))⟩, ?_⟩; simp only [Act.put, lsA, lsB, lsC])
 simp only [SeqC]
 refine held_call 1 (some 71) 24 #[.agg qc.toArray] (by kernel_rfl) rfl rfl (by kernel_rfl) (by go_simp) (TX.out _ (below_then S7 S7.size hS.2.2)) ?_
 rintro _ w8 ⟨rfl, b8⟩
 have hS8 : Blk w8 gn 83 L7 ∧ Blk w8 (w.heap.size + 1) 24 qc ∧ Below w7.heap.size w7 w8 := ⟨hS.1.below b8 hS.1.lt, hS.2.1.below b8 hS.2.1.lt, below_then hS.2.2 hS.2.2.size b8⟩
 refine ⟨_, rfl, hS8, ?_⟩
 clear hS b8 TX
 have hS := hS8
 clear hS8
 simp only [Act.put, lsA, lsB, lsC]
 refine held_seq hS 1 [6] rfl (by kernel_rfl) (fun _ _ _ _ _ h => h) rfl rfl ?_
 (refine ⟨_, (.agg (zrC 0 none 0 0 [] ho se).toArray), rfl, .inl ⟨rfl, fun V hV => (exec_bldH 46 _ rfl #[(3, .string (bs ho)), (4, .string (bs se))] (by kernel_rfl) (ZB.out ho se V))⟩, ?_⟩; simp only [Act.put, lsA, lsB, lsC])
 simp only [SeqC]
 refine held_call 7 (some 77) 20 #[.agg (zrC 0 none 0 0 [] ho se).toArray] (by kernel_rfl) rfl rfl (by kernel_rfl) (by go_simp) (OV.out ho se _) ?_
 rintro _ w9 ⟨g, rfl, hg, hB, b9⟩
 have hS9 : Blk w9 gn 83 L7 ∧ Blk w9 (w.heap.size + 1) 24 qc ∧ Below w7.heap.size w7 w9 := ⟨hS.1.below b9 hS.1.lt, hS.2.1.below b9 hS.2.1.lt, below_then hS.2.2 hS.2.2.size b9⟩
 refine ⟨_, rfl, hS9, ?_⟩
 have HB := Hh hB
 have S9 := Hh (below_then S7 S7.size hS9.2.2)
 clear hS b9 OV ZB hB
 have hS := hS9
 clear hS9
 simp only [Act.put, lsA, lsB, lsC]
 refine held_seq hS 2 [8, 9] rfl (by kernel_rfl) (fun _ _ _ _ _ h => h) rfl rfl ?_
 (refine ⟨_, (.pointer (some ⟨g, 0, none⟩)), rfl, .inl ⟨rfl, fun V hV => rfl⟩, ?_⟩; simp only [Act.put, lsA, lsB, lsC])
 (refine ⟨_, (.slice none 0 0), rfl, .inl ⟨rfl, fun V hV => rfl⟩, ?_⟩; simp only [Act.put, lsA, lsB, lsC])
 simp only [SeqC]
 refine wpAnyH_done (by kernel_rfl) ?_ _
 clear hS
 go_wp2_with fail
 go_ret2
 exact ⟨g, rfl, HB.out, S9.out⟩
theorem check_fam {a : Adr} (h : a.check = 0) : a.fam = 4 ∨ a.fam = 6 := by
 unfold Adr.check at h
 by_cases h4 : a.fam = 4
 ·
  exact .inl h4
 ·
  by_cases h6 : a.fam = 6
  ·
   exact .inr h6
  ·
   rw [if_neg h4, if_neg h6] at h; omega
theorem check_6 {a : Adr} (h : a.check = 0) (h6 : a.fam = 6) : 0 ≤ a.zone ∧ a.zone ≤ 2147483647 := by
 unfold Adr.check at h
 rw [if_neg (by omega), if_pos h6] at h
 by_cases hz : a.zone < 0 ∨ 2147483647 < a.zone
 ·
  rw [if_pos hz] at h; omega
 ·
  omega
theorem check_4 {a : Adr} (h16 : a.ip.length = 16) (h : a.check = 0) (h4 : a.fam = 4) : ∃ b c d e, a = quadA b c d e := by
 unfold Adr.check at h
 rw [if_pos h4] at h
 by_cases hz : a.ip.drop 4 = List.replicate 12 0 ∧ a.zone = 0
 ·
  obtain ⟨f, ip, z⟩ := a
  obtain ⟨h1, h2⟩ := hz
  simp only at h16 h4 h1 h2
  subst h4 h2
  match ip, h16 with
  | b :: c :: d :: e :: l, _ =>
   refine ⟨b, c, d, e, ?_⟩
   have : l = List.replicate 12 0 := h1
   subst this
   rfl
 ·
  rw [if_neg hz] at h; omega
theorem adrT_quad (b c d e : UInt8) : adrT (quadA b c d e) = quadT b.toNat c.toNat d.toNat e.toNat := by
 unfold adrT
 rw [if_pos (show (quadA b c d e).fam = 4 from rfl)]
 rfl
theorem ne_of_mem {c : UInt8} {l : List UInt8} (h : c ∈ l) : l.isEmpty = false := by
 cases l with
 | nil => cases h
 | cons _ _ => rfl
theorem adrT_ne {a : Adr} (h16 : a.ip.length = 16) (h : a.check = 0) : (adrT a).isEmpty = false := by
 rcases check_fam h with h4 | h6
 ·
  obtain ⟨b, c, d, e, rfl⟩ := check_4 h16 h h4
  rw [adrT_quad]
  refine ne_of_mem (c := 46) ?_
  unfold quadT
  simp
 ·
  unfold adrT
  rw [if_neg (by omega), if_pos h6]
  exact ne_of_mem (colonT_58 a)
theorem addrBack {a : Adr} (h16 : a.ip.length = 16) (h : a.check = 0) (V : World) (hT : Tb V) (hM : Mx V) : Calls prog 86 #[.string (bs (adrT a))] V (RetB (.tuple #[.agg a.cells.toArray, .int .i64 0]) V) := by
 rcases check_fam h with h4 | h6
 ·
  obtain ⟨b, c, d, e, rfl⟩ := check_4 h16 h h4
  rw [adrT_quad]
  exact addrParse4_any b c d e V hT
 ·
  have e : adrT a = colonT a := by unfold adrT; rw [if_neg (by omega), if_pos h6]
  rw [e]
  exact addrParse6_any a h16 h6 (check_6 h h6) V hT hM
theorem numBack (p : Nat) (hp : p ≤ 65535) (V : World) : Calls prog 82 #[.string (bs (Lib.itoa (p : Int))), .int .i64 65535] V (Ret (.tuple #[.int .i64 (p : Int), .int .i64 0]) V) := by
 obtain ⟨v1, v2⟩ := itoa_val p
 have v4 := itoa_len (p : Int) (by omega) (by omega)
 have h := numD_any (Lib.itoa (p : Int)) 65535 (itoa_pos p) (by omega) v2 (by decide) (by omega) V
 rw [v1] at h
 exact h
theorem fields_inf : (prog.fieldsOf 57).toList = [{ name := "Addr", type := 24, offset := 0, embedded := false, tag := "", pkgPath := "", byteOffset := 0 }, { name := "Port", type := 3, offset := 18, embedded := false, tag := "", pkgPath := "", byteOffset := 32 }, { name := "Socktype", type := 3, offset := 19, embedded := false, tag := "", pkgPath := "", byteOffset := 40 }] := by kernel_rfl
theorem run_eqInf (a : Adr) (h : a.ip.length = 16) (p k : Int) (w : World) : (Op.equalIn 10000 57 (.agg (infC ⟨a, p, k⟩).toArray) (.agg (infC ⟨a, p, k⟩).toArray)).run prog w = .ok true w := by
 rw [run_equalIn_struct w 9999 57 _ _ (by unfold Program.fieldsOf; rw [underlying57]) (by kernel_rfl), fields_inf]
 have hl : a.cells.length = 18 := a.cells_len h
 have ex : (infC ⟨a, p, k⟩).toArray.extract 0 18 = a.cells.toArray := by
  apply Array.toList_inj.1
  simp only [infC, List.extract_toArray, List.toList_toArray, List.extract_eq_take_drop, List.drop_zero]
  exact List.take_left' hl
 have p0 : ∀ w, (part 24 (infC ⟨a, p, k⟩).toArray 0).run prog w = .ok (.agg a.cells.toArray) w := fun w => by
  simp only [part, isAgg, Sem.run_bind, run_underlying underlying24, Result.andThen_ok, Sem.run_pure, if_true, size_adr, Sem.run_ite]
  rw [show 0 + 18 = 18 from rfl, ex]
 have g18 : (infC ⟨a, p, k⟩)[18]? = some (.int .i64 p) := by show (a.cells ++ [Value.int .i64 p, .int .i64 k])[18]? = _; rw [List.getElem?_append_right (by omega), hl]; rfl
 have g19 : (infC ⟨a, p, k⟩)[19]? = some (.int .i64 k) := by show (a.cells ++ [Value.int .i64 p, .int .i64 k])[19]? = _; rw [List.getElem?_append_right (by omega), hl]; rfl
 have p1 : ∀ w, (part 3 (infC ⟨a, p, k⟩).toArray 18).run prog w = .ok (.int .i64 p) w := fun w => by
  simp [part, isAgg, run_underlying underlying3, g18]
 have p2 : ∀ w, (part 3 (infC ⟨a, p, k⟩).toArray 19).run prog w = .ok (.int .i64 k) w := fun w => by
  simp [part, isAgg, run_underlying underlying3, g19]
 have e0 := run_eqA9 a a h h w
 have e1 : ∀ n : Int, (Op.equalIn 9999 3 (.int .i64 n) (.int .i64 n)).run prog w = .ok (n == n) w := fun n => run_equalIn_int w 9998 _ _ _ _ _ underlying3
 simp only [Op.eqFields, ne_eq, String.reduceEq, not_false_eq_true, if_true, Sem.run_bind, p0, p1, p2, e0, e1, Result.andThen_ok, Sem.run_ite, Sem.run_pure]
 simp
theorem own_cells43 {w : World} {B : Nat} {e : TypeId} {s : Nat} {A : Option Addr} {n c : Nat} {xs : List Value} (h : w.ownsRow B e s (.slice A n c) n xs) (hn : 0 < n) (hl : xs.length = n * s) : ∃ g, A = some ⟨g, 0, none⟩ ∧ g < w.heap.size ∧ ∀ j v, xs[j]? = some v → w.cell? ⟨g, j, none⟩ = some v := by
 obtain ⟨g, L, hA, hb, hL, _⟩ := own_range h hn hl
 refine ⟨g, hA, hb.lt, fun j v hv => hb.cell_ j ?_⟩
 rw [← hL, List.getElem?_take] at hv
 split at hv
 ·
  exact hv
 ·
  cases hv
theorem infI20 : (prog.info? 57).map (·.size) = some 20 := by kernel_rfl
theorem infR_1 (a : Adr) (p k : Int) : infR a p [k] = infC ⟨a, p, k⟩ := by simp [infR]
set_option maxHeartbeats 8000000 in
theorem stubRound_of (a : Adr) (h16 : a.ip.length = 16) (hz : a.zone ≤ 9223372036854775807) (p : Nat) (hp : p ≤ 65535) (w : World) (hT : Tb w) (hM : Mx w) (hA : Ah w) (WK : ∀ V, Below w.heap.size w V → Calls prog 5 #[] V (RetB (.bool true) V)) : Calls prog 3 #[.agg a.cells.toArray, .int .u16 (p : Int)] w (RetB (.bool true) w) := by
 have WKH := Hh WK
 have RC := Hh (fun V => refCheck09_any a h16 V)
 have hql : a.cells.length = 18 := a.cells_len h16
 have hqo : ∀ v ∈ a.cells, v.oneCell' = true := a.cells_one
 have wp64 : IntKind.i64.wrap (p : Int) = p := IntWalk.i64_in _ (by omega)
 have B0 : Blk (w.alloc (.cells a.cells.toArray 24)) w.heap.size 24 a.cells := Blk.new w _ _
 have BB : Below w.heap.size w (w.alloc (.cells a.cells.toArray 24)) := (Below.refl _ _).alloc (Nat.le_refl _) _
 clear WK
 by_cases hc : a.check = 0
 case neg =>
  have hm : (a.check != 0) = true := by simpa using hc
  clear hT hM hA hz
  generalize a.check = m at *
  generalize a.cells = qc at *
  go_enter func3, ntmps3
  go_wp2_with fail
  refine (WKH.out _ BB).mono ?_
  rintro _ w1 ⟨rfl, b1⟩
  have B1 := B0.below b1 B0.lt
  have S1 := below_then BB BB.size b1
  clear B0 BB b1
  go_wp2_with (refine at_op (.load 24 (.tmp 2)) rfl ?_; go_must (refine wpList_ldG 24 (.tmp 2) rfl (by go_simp) w.heap.size 0 rfl B1 18 (by omega) _ underlying24 rfl adrInfo qc (tk0 (by omega)) ?_))
  refine (RC.out _).mono ?_
  rintro _ w2 ⟨rfl, b2⟩
  have S2 := below_then S1 S1.size b2
  clear RC B1 S1 b2
  go_wp2_with fail
  refine (WKH.out _ S2).mono ?_
  rintro _ w3 ⟨rfl, b3⟩
  have S3 := Hh (below_then S2 S2.size b3)
  clear WKH S2 b3
  go_wp2_with fail
  go_ret
  exact RetB.mk rfl S3.out
 case pos =>
  have hf := check_fam hc
  have hTn := adrT_ne h16 hc
  rw [hc] at RC
  have GN := Hh (fun V (hV : Below w.heap.size w V) => gni_any a h16 hc hf hz p hp V (hT.below hV) (hA.below hV))
  have GA := Hh (fun V (hV : Below w.heap.size w V) => gai_lit 12 2 (.inr (.inr ⟨rfl, rfl, rfl⟩)) (adrT a) (Lib.itoa (p : Int)) hTn a h16 hf (p : Int) (.inr ⟨by have := itoa_pos p; cases h : Lib.itoa (p : Int) with | nil => rw [h] at this; cases this | cons _ _ => rfl, numBack p hp⟩) none V (fun U hU => addrBack h16 hc U (hT.below (below_then hV hV.size hU)) (hM.below (below_then hV hV.size hU))))
  have hkd : kdL 2 = [2] := rfl
  have EQ : ∀ W, (Op.equalIn 10000 57 (.agg (infC ⟨a, (p : Int), 2⟩).toArray) (.agg (infC ⟨a, (p : Int), 2⟩).toArray)).run prog W = .ok true W := fun W => run_eqInf a h16 p 2 W
  have BL := Hh (fun W => inf_bld a h16 (p : Int) 2 W)
  have hil : (infR a (p : Int) [2]).length = 1 * 20 := infR_len a h16 p [2]
  have hio := infR_one a (p : Int) [2]
  have hi1 : infR a (p : Int) [2] = infC ⟨a, (p : Int), 2⟩ := infR_1 a p 2
  unfold GaR43 GnRet at *
  rw [hkd] at GA
  unfold hiC at GA
  rw [hi1] at hil hio GA
  clear hT hM hA hz hf hc hTn hkd hi1
  generalize infC ⟨a, (p : Int), 2⟩ = ic at *
  generalize adrT a = ho at *
  generalize Lib.itoa (p : Int) = se at *
  generalize a.cells = qc at *
  have F1 := Hh (fun ho se A c (V : World) g (h : Blk V g 91 ([.nilIface, .nilFunc, .bool true] ++ zrC 0 A 0 c [] ho se)) (hO : V.ownsRow 0 57 20 (.slice A 0 c) 0 []) => cresult_done h hO rfl (fun u hu => by cases hu) (by decide))
  have F2 := Hh (fun A c (V : World) g (h : Blk V g 91 ([.nilIface, .nilFunc, .bool true] ++ zrC 0 A 1 c [] [] [])) (hO : V.ownsRow 0 57 20 (.slice A 1 c) 1 ic) => cresult_done h hO hil hio (by decide))
  unfold RsR43 at F1 F2
  go_enter func3, ntmps3
  go_wp2_with fail
  refine (WKH.out _ BB).mono ?_
  rintro _ w1 ⟨rfl, b1⟩
  have B1 := B0.below b1 B0.lt
  have S1 := below_then BB BB.size b1
  clear WKH B0 BB b1
  go_wp2_with (refine at_op (.load 24 (.tmp 2)) rfl ?_; go_must (refine wpList_ldG 24 (.tmp 2) rfl (by go_simp) w.heap.size 0 rfl B1 18 (by omega) _ underlying24 rfl adrInfo qc (tk0 (by omega)) ?_))
  refine (RC.out _).mono ?_
  rintro _ w2 ⟨rfl, b2⟩
  have B2 := B1.below b2 B1.lt
  have S2 := below_then S1 S1.size b2
  clear RC B1 S1 b2
  go_wp2_with (refine at_op (.load 24 (.tmp 2)) rfl ?_; go_must (refine wpList_ldG 24 (.tmp 2) rfl (by go_simp) w.heap.size 0 rfl B2 18 (by omega) _ underlying24 rfl adrInfo qc (tk0 (by omega)) ?_))
  refine (GN.out _ S2).mono ?_
  rintro _ w3 ⟨g1, rfl, hX, b3⟩
  have B3 := B2.below b3 B2.lt
  have S3 := below_then S2 S2.size b3
  have DX := Hh (cdone_any hX)
  have RX := Hh (F1.out ho se none 0 w3 g1 hX (World.ownsRow_nil _ _ _ _))
  clear GN B2 S2 b3 hX F1
  go_wp2_with fail
  refine DX.out.mono ?_
  rintro _ _ ⟨rfl, rfl⟩
  clear DX
  go_wp2_with fail
  refine RX.out.mono ?_
  rintro _ w4 ⟨A4, c4, rfl, -, b4⟩
  have B4 := B3.below b4 B3.lt
  have S4 := below_then S3 S3.size b4
  have Z4 : Blk (w4.alloc (.cells rzZ.toArray 46)) w4.heap.size 46 rzZ := Blk.new w4 _ _
  have Q4 : Below w4.heap.size w4 (w4.alloc (.cells rzZ.toArray 46)) := (Below.refl _ _).alloc (Nat.le_refl _) _
  clear RX B3 S3 b4
  go_wp2_with (refine at_op (.store 46 (.tmp 7) (.tmp 39)) rfl ?_; go_must (refine wpList_stB rfl _ _ _ rfl w4.heap.size 0 rfl (zrC 0 A4 0 c4 [] ho se) rfl Z4 (Nat.le_refl 6) rzI6 (zrC_one _ _ _ _ _ _ _) ?_))
  intro w5 Y5 g5 _
  have R5 : Blk w5 w4.heap.size 46 (zrC 0 A4 0 c4 [] ho se) := Y5
  have Q5 := below_grown Q4 g5 Q4.size (Nat.le_refl _)
  have B5 := B4.below Q5 B4.lt
  have S5 := below_then S4 S4.size Q5
  have d3 : w5.cell? ⟨w4.heap.size, 3, none⟩ = some (.string (bs ho)) := R5.cell_ 3 rfl
  have d4 : w5.cell? ⟨w4.heap.size, 4, none⟩ = some (.string (bs se)) := R5.cell_ 4 rfl
  obtain ⟨g7, hg7⟩ : ∃ g7, Hid (w4.heap.size = g7) := ⟨_, Hh rfl⟩
  rw [hg7.out] at R5 d3 d4 ⊢
  clear Y5 g5 Q4 Q5 Z4 B4 S4 hg7
  go_wp2_with fail
  refine (GA.out _ S5).mono ?_
  rintro _ w6 ⟨g2, A6, c6, rfl, hX, hI, b6⟩
  have B6 := B5.below b6 B5.lt
  have R6 := R5.below b6 R5.lt
  have S6 := below_then S5 S5.size b6
  have DX := Hh (cdone_any hX)
  have RX := Hh (F2.out A6 c6 w6 g2 hX hI)
  clear GA B5 S5 R5 b6 hX hI F2 d3 d4
  go_wp2_with fail
  refine DX.out.mono ?_
  rintro _ _ ⟨rfl, rfl⟩
  clear DX
  go_wp2_with fail
  refine RX.out.mono ?_
  rintro _ w7 ⟨A7, c7, rfl, hI7, b7⟩
  have B7 := B6.below b7 B6.lt
  have R7 := R6.below b7 R6.lt
  have S7 := below_then S6 S6.size b7
  obtain ⟨gi, rfl, hgi, hcell⟩ := own_cells43 hI7 (by decide) hil
  have HCL := Hh hcell
  have Z7 : Blk (w7.alloc (.cells rzZ.toArray 46)) w7.heap.size 46 rzZ := Blk.new w7 _ _
  have Q7 : Below w7.heap.size w7 (w7.alloc (.cells rzZ.toArray 46)) := (Below.refl _ _).alloc (Nat.le_refl _) _
  clear RX B6 R6 S6 b7 hI7 hcell
  go_wp2_with (refine at_op (.store 46 (.tmp 9) (.tmp 64)) rfl ?_; go_must (refine wpList_stB rfl _ _ _ rfl w7.heap.size 0 rfl (zrC 0 (some ⟨gi, 0, none⟩) 1 c7 [] [] []) rfl Z7 (Nat.le_refl 6) rzI6 (zrC_one _ _ _ _ _ _ _) ?_))
  intro w8 Y8 g8 _
  have R8 : Blk w8 w7.heap.size 46 (zrC 0 (some ⟨gi, 0, none⟩) 1 c7 [] [] []) := Y8
  have Q8 := below_grown Q7 g8 Q7.size (Nat.le_refl _)
  have B8 := B7.below Q8 B7.lt
  have P8 := R7.below Q8 R7.lt
  have S8 := below_then S7 S7.size Q8
  have HR : Hid (∀ V, Below w8.heap.size w8 V → V.rangeAt gi 0 ic) := Hh (fun V hV j v hv => by
   rw [Nat.zero_add]
   have h1 := HCL.out j v hv
   have hV7 := below_then Q8 Q8.size hV
   exact (hV7.cell (p := ⟨gi, j, none⟩) hgi).trans h1)
  have hicl : (prog.info? 57).map (·.size) = some ic.length := by rw [hil]; exact infI20
  have L0 : Hid (∀ V, Below w8.heap.size w8 V → (Instr.loadAt 3 (.pointer (some ⟨g7, 0, none⟩))).run prog V = .ok (.int .i64 0) V) := Hh (fun V hV => run_load1 underlying3 rfl ((P8.below hV P8.lt).cell_ 0 rfl))
  have L1 : Hid (∀ V, Below w8.heap.size w8 V → (Instr.loadAt 3 (.pointer (some ⟨w7.heap.size, 0, none⟩))).run prog V = .ok (.int .i64 0) V) := Hh (fun V hV => run_load1 underlying3 rfl ((R8.below hV R8.lt).cell_ 0 rfl))
  have L2 : Hid (∀ V, Below w8.heap.size w8 V → (Instr.loadAt 43 (.pointer (some ⟨w7.heap.size, 1, none⟩))).run prog V = .ok (.slice (some ⟨gi, 0, none⟩) 1 c7) V) := Hh (fun V hV => run_load1 underlying43 rfl ((R8.below hV R8.lt).cell_ 1 rfl))
  have L3 : Hid (∀ V, Below w8.heap.size w8 V → (Instr.loadAt 57 (.pointer (some ⟨gi, 0, none⟩))).run prog V = .ok (.agg ic.toArray) V) := Hh (fun V hV => run_loadAt_mid V gi 0 57 ic _ (HR.out V hV) underlying57 rfl hicl)
  have L4 : Hid (∀ V, Below w8.heap.size w8 V → (Instr.loadAt 24 (.pointer (some ⟨w.heap.size, 0, none⟩))).run prog V = .ok (.agg qc.toArray) V) := Hh (fun V hV => (B8.below hV B8.lt).loads 24 0 18 (by omega) _ underlying24 rfl adrInfo qc (tk0 (by omega)))
  obtain ⟨g9, hg9⟩ : ∃ g9, Hid (w7.heap.size = g9) := ⟨_, Hh rfl⟩
  rw [hg9.out] at L1 L2 ⊢
  have HS8 := Hh S8
  clear Y8 g8 Q7 Q8 Z7 B7 R7 S7 hg9 R8 P8 B8 S8 HR HCL hgi hicl
  go_wp2_with fail
  refine wp_region_old (by kernel_rfl) (by kernel_rfl) ?_
  (refine wpQuiet_val (v := (.pointer (some ⟨g7, 0, none⟩))) rfl (fun W hW => by first | (go_simp; done) | (go_simp; omega)) ?_; simp only [Act.put, lsA, lsB, lsC])
  refine wpQuiet_ld (v := .int .i64 0) 3 (.tmp 65) rfl ⟨g7, 0, none⟩ rfl rfl (fun V hV => L0.out V hV) ?_
  simp only [Act.put, lsA, lsB, lsC]
  (refine wpQuiet_val (v := (.bool true)) rfl (fun W hW => by first | (go_simp; done) | (go_simp; omega)) ?_; simp only [Act.put, lsA, lsB, lsC])
  (refine wpQuiet_val (v := (.bool true)) rfl (fun W hW => by first | (go_simp; done) | (go_simp; omega)) ?_; simp only [Act.put, lsA, lsB, lsC])
  (refine wpQuiet_val (v := (.pointer (some ⟨g9, 0, none⟩))) rfl (fun W hW => by first | (go_simp; done) | (go_simp; omega)) ?_; simp only [Act.put, lsA, lsB, lsC])
  refine wpQuiet_ld (v := .int .i64 0) 3 (.tmp 69) rfl ⟨g9, 0, none⟩ rfl rfl (fun V hV => L1.out V hV) ?_
  simp only [Act.put, lsA, lsB, lsC]
  (refine wpQuiet_val (v := (.bool true)) rfl (fun W hW => by first | (go_simp; done) | (go_simp; omega)) ?_; simp only [Act.put, lsA, lsB, lsC])
  (refine wpQuiet_val (v := (.bool true)) rfl (fun W hW => by first | (go_simp; done) | (go_simp; omega)) ?_; simp only [Act.put, lsA, lsB, lsC])
  (refine wpQuiet_val (v := (.bool true)) rfl (fun W hW => by first | (go_simp; done) | (go_simp; omega)) ?_; simp only [Act.put, lsA, lsB, lsC])
  (refine wpQuiet_val (v := (.pointer (some ⟨g9, 1, none⟩))) rfl (fun W hW => by first | (go_simp; done) | (go_simp; omega)) ?_; simp only [Act.put, lsA, lsB, lsC])
  refine wpQuiet_ld (v := .slice (some ⟨gi, 0, none⟩) 1 c7) 43 (.tmp 74) rfl ⟨g9, 1, none⟩ rfl rfl (fun V hV => L2.out V hV) ?_
  simp only [Act.put, lsA, lsB, lsC]
  (refine wpQuiet_val (v := (.int .i64 1)) rfl (fun W hW => by first | (go_simp; done) | (go_simp; omega)) ?_; simp only [Act.put, lsA, lsB, lsC])
  (refine wpQuiet_val (v := (.bool true)) rfl (fun W hW => by first | (go_simp; done) | (go_simp; omega)) ?_; simp only [Act.put, lsA, lsB, lsC])
  (refine wpQuiet_val (v := (.bool true)) rfl (fun W hW => by first | (go_simp; done) | (go_simp; omega)) ?_; simp only [Act.put, lsA, lsB, lsC])
  (refine wpQuiet_val (v := (.bool true)) rfl (fun W hW => by first | (go_simp; done) | (go_simp; omega)) ?_; simp only [Act.put, lsA, lsB, lsC])
  (refine wpQuiet_val (v := (.pointer (some ⟨g9, 1, none⟩))) rfl (fun W hW => by first | (go_simp; done) | (go_simp; omega)) ?_; simp only [Act.put, lsA, lsB, lsC])
  refine wpQuiet_ld (v := .slice (some ⟨gi, 0, none⟩) 1 c7) 43 (.tmp 80) rfl ⟨g9, 1, none⟩ rfl rfl (fun V hV => L2.out V hV) ?_
  simp only [Act.put, lsA, lsB, lsC]
  (refine wpQuiet_val (v := (.pointer (some ⟨gi, 0, none⟩))) rfl (fun W hW => by first | (go_simp; done) | (go_simp; omega)) ?_; simp only [Act.put, lsA, lsB, lsC])
  refine wpQuiet_ld (v := .agg ic.toArray) 57 (.tmp 82) rfl ⟨gi, 0, none⟩ rfl rfl (fun V hV => L3.out V hV) ?_
  simp only [Act.put, lsA, lsB, lsC]
  refine wpQuiet_ld (v := .agg qc.toArray) 24 (.tmp 2) rfl ⟨w.heap.size, 0, none⟩ rfl rfl (fun V hV => L4.out V hV) ?_
  simp only [Act.put, lsA, lsB, lsC]
  (refine wpQuiet_val (v := (.int .u16 (p : Int))) rfl (fun W hW => by first | (go_simp; done) | (go_simp; omega)) ?_; simp only [Act.put, lsA, lsB, lsC])
  (refine wpQuiet_val (v := (.int .i64 (p : Int))) rfl (fun W hW => by first | (go_simp; done) | (go_simp; omega)) ?_; simp only [Act.put, lsA, lsB, lsC])
  refine wpQuiet_val (v := .agg ic.toArray) rfl (fun V hV => exec_bldH 57 _ rfl #[(0, .agg qc.toArray), (1, .int .i64 (p : Int)), (2, .int .i64 2)] (by kernel_rfl) (BL.out V)) ?_
  simp only [Act.put, lsA, lsB, lsC]
  (refine wpQuiet_val (v := (.bool true)) rfl (fun W hW => by first | (go_simp; done) | (go_simp; omega)) ?_; simp only [Act.put, lsA, lsB, lsC])
  (refine wpQuiet_val (v := (.bool true)) rfl (fun W hW => by first | (go_simp; done) | (go_simp; omega)) ?_; simp only [Act.put, lsA, lsB, lsC])
  (refine wpQuiet_val (v := (.bool true)) rfl (fun W hW => by first | (go_simp; done) | (go_simp; omega)) ?_; simp only [Act.put, lsA, lsB, lsC])
  refine wpQuiet_nil ?_
  intro w9 h9
  have S9 := Hh (below_then HS8.out HS8.out.size h9)
  clear L0 L1 L2 L3 L4 BL HS8 EQ h9
  go_wp2_with fail
  go_ret
  exact RetB.mk rfl S9.out
end Go.Proofs.YteimenplbanooaaGreatDoor
