/-
  Layers 43 and 47: From, to; two results that are the same.
-/
import Derived.Test.YtkcbffldncmbcaaGreatDoorTy34q
namespace Go.Proofs.YtkcbffldncmbcaaGreatDoor
open _root_.Go.Proofs.Tryz
open Go.RowKit
set_option maxRecDepth 100000
set_option linter.unusedVariables false
set_option linter.unusedSimpArgs false
theorem resInfo35 : (prog.info? 25).map (·.size) = some 6 := by kernel_rfl
theorem from43_any (c : Int) (A B : Option Addr) (n m k l : Nat) (s1 s2 s3 : ByteArray) (w : World) : Calls prog 14 #[.agg #[.int .i64 c, .slice A n k, .string s1, .string s2, .string s3, .slice B m l]] w (RetB (.agg #[.int .i64 c, .slice A n k, .string s1, .string s2, .string s3, .slice B m l]) w) := by
 go_enter func14, ntmps14
 go_wp2_with fail
 refine ret_cell rfl (w.heap.size + 1) rfl (Blk.new' _ 25 [.int .i64 c, .slice A n k, .string s1, .string s2, .string s3, .slice B m l] _ (by simp)) _ underlying25 rfl resInfo35 rfl ?_
 exact RetB.mk rfl (((Below.refl _ _).alloc (Nat.le_refl _) _).alloc (by simp) _)
theorem to47_any (c : Int) (A B : Option Addr) (n m k l : Nat) (s1 s2 s3 : ByteArray) (w : World) : Calls prog 7 #[.agg #[.int .i64 c, .slice A n k, .string s1, .string s2, .string s3, .slice B m l]] w (RetB (.agg #[.int .i64 c, .slice A n k, .string s1, .string s2, .string s3, .slice B m l]) w) := by
 go_enter func7, ntmps7
 go_wp2_with fail
 refine ret_cell rfl (w.heap.size + 1) rfl (Blk.new' _ 35 [.int .i64 c, .slice A n k, .string s1, .string s2, .string s3, .slice B m l] _ (by simp)) _ underlying35 rfl resInfo34 rfl ?_
 exact RetB.mk rfl (((Below.refl _ _).alloc (Nat.le_refl _) _).alloc (by simp) _)
theorem sameNil_any (w : World) : Calls prog 41 #[.slice none 0 0, .slice none 0 0] w (RetB (.bool true) w) := by
 go_enter func41, ntmps41
 go_wp2_with fail
 go_loopw [5] (fun iv wr => iv = .int .i64 0 ∧ wr = w) (fun iv _ => 0)
 case atStart => exact ⟨rfl, rfl⟩
 obtain ⟨rfl, rfl⟩ := hrel
 go_wp2_with fail
 go_ret
 exact RetB.mk rfl (Below.refl _ _)
theorem infInfo35 : (prog.info? 53).map (·.size) = some 20 := by kernel_rfl
theorem run_eqI (w : World) : (Op.equalIn 10000 53 (.agg (infC wkI).toArray) (.agg (infC wkI).toArray)).run prog w = .ok true w := by kernel_rfl
theorem exec_neqI {o : Oper} {a : Act} (p q : Operand) (ho : o.op = .binOp .neq 53 p q 53) (hx : a.eval p = .agg (infC wkI).toArray) (hy : a.eval q = .agg (infC wkI).toArray) (w : World) : (execOp a.eval o).run prog w = .ok (.value (.bool false)) w := by
 have hr := run_eqI w
 have hg : (eqGuard .neq 53 p q (.agg (infC wkI).toArray) (.agg (infC wkI).toArray)).run prog w = .ok () w := run_eqGuard_agg w _ _ _ _ _ _ Tryz.eqGuardType53
 unfold execOp
 simp only [ho, hx, hy, Sem.run_bind, hg, run_neq_struct, hr, Result.andThen_ok, Sem.run_pure, Bool.not_true]
def oneC (g k : Nat) : List Value := [.int .i64 0, .slice (some ⟨g, 0, none⟩) 1 k, .string ⟨#[]⟩, .string ⟨#[]⟩, .string ⟨#[]⟩, .slice none 0 0]
set_option maxHeartbeats 2000000 in
theorem same43_one (ga gb ka kb : Nat) (w : World) (h1 : LIn w 20 InfI (some ⟨ga, 0, none⟩) [wkI]) (h2 : LIn w 20 InfI (some ⟨gb, 0, none⟩) [wkI]) : Calls prog 13 #[.agg (oneC ga ka).toArray, .agg (oneC gb kb).toArray] w (RetB (.bool true) w) := by
 have SN := Hh (fun V => sameNil_any V)
 unfold oneC
 go_enter func13, ntmps13
 go_wp2_with fail
 refine (SN.out _).mono ?_
 rintro _ w2 ⟨rfl, b2⟩
 have X1 : Blk w2 w.heap.size 25 [.int .i64 0, .slice (some ⟨ga, 0, none⟩) 1 ka, .string ⟨#[]⟩, .string ⟨#[]⟩, .string ⟨#[]⟩, .slice none 0 0] := (Blk.alloc (Blk.new w 25 [.int .i64 0, .slice (some ⟨ga, 0, none⟩) 1 ka, .string ⟨#[]⟩, .string ⟨#[]⟩, .string ⟨#[]⟩, .slice none 0 0]) _).below b2 (by simp; omega)
 have X2 : Blk w2 (w.heap.size + 1) 25 [.int .i64 0, .slice (some ⟨gb, 0, none⟩) 1 kb, .string ⟨#[]⟩, .string ⟨#[]⟩, .string ⟨#[]⟩, .slice none 0 0] := (Blk.new' (w.alloc _) 25 [.int .i64 0, .slice (some ⟨gb, 0, none⟩) 1 kb, .string ⟨#[]⟩, .string ⟨#[]⟩, .string ⟨#[]⟩, .slice none 0 0] (w.heap.size + 1) (by simp)).below b2 (by simp)
 have HB : Below w.heap.size w w2 := (((Below.refl _ _).alloc (Nat.le_refl _) _).alloc (by simp) _).trans (b2.mono (by simp; omega))
 replace h1 : LIn w2 20 InfI (some ⟨ga, 0, none⟩) [wkI] := h1.mono HB (fun _ _ h => h)
 replace h2 : LIn w2 20 InfI (some ⟨gb, 0, none⟩) [wkI] := h2.mono HB (fun _ _ h => h)
 clear b2 SN
 go_wp2_with fail
 go_loopw [5] (fun iv wr => ∃ k : Nat, k ≤ 1 ∧ iv = .int .i64 k ∧ Below w2.heap.size w2 wr) (fun iv _ => 1 - (intOf iv).toNat)
 case atStart => exact ⟨0, Nat.zero_le _, rfl, Below.refl _ _⟩
 obtain ⟨k, hk, rfl, hW⟩ := hrel
 have Y1 := X1.below hW X1.lt
 have Y2 := X2.below hW X2.lt
 have a1 := Y1.cell_ 1 (u := .slice (some ⟨ga, 0, none⟩) 1 ka) rfl
 have a2 := Y2.cell_ 1 (u := .slice (some ⟨gb, 0, none⟩) 1 kb) rfl
 have hk2 : k = 0 ∨ k = 1 := by omega
 rcases hk2 with rfl | rfl
 ·
  obtain ⟨_, _, e1, l1, x1⟩ := h1 (by decide)
  obtain ⟨_, _, e2, l2, x2⟩ := h2 (by decide)
  injection e1 with e1
  injection e1 with e1 e1' _
  injection e2 with e2
  injection e2 with e2 e2' _
  subst e1 e1' e2 e2'
  obtain ⟨cs1, r1, i1⟩ := x1 0 (by decide)
  obtain ⟨cs2, r2, i2⟩ := x2 0 (by decide)
  obtain rfl : cs1 = infC wkI := i1.1
  obtain rfl : cs2 = infC wkI := i2.1
  have R1 := range_below r1 hW l1
  have R2 := range_below r2 hW l2
  clear x1 x2 r1 r2 i1 i2 h1 h2
  go_wp2_with fail
  refine wp_region_old (by kernel_rfl) (by kernel_rfl) ?_
  refine wpQuiet_val (v := .pointer (some ⟨w.heap.size, 1, none⟩)) rfl (fun W hW => rfl) ?_
  simp only [Act.put, lsA, lsB, lsC]
  refine wpQuiet_ld (v := .slice (some ⟨ga, 0, none⟩) 1 ka) 22 (.tmp 56) rfl ⟨w.heap.size, 1, none⟩ rfl rfl (fun V hV => run_load1 underlying22 rfl ((Y1.below hV Y1.lt).cell_ 1 rfl)) ?_
  simp only [Act.put, lsA, lsB, lsC]
  (refine wpQuiet_val (v := (.int .i64 0)) rfl (fun W hW => by first | (go_simp; done) | (go_simp; omega)) ?_; simp only [Act.put, lsA, lsB, lsC])
  refine wpQuiet_val (v := .pointer (some ⟨ga, 0 + 0 * 20, none⟩)) rfl (fun W hW => exec_ixK underlying22 infInfo35 (by omega) (.tmp 57) (.tmp 58) rfl rfl rfl (by decide) W) ?_
  simp only [Act.put, lsA, lsB, lsC]
  refine wpQuiet_ld (v := .agg (infC wkI).toArray) 53 (.tmp 59) rfl ⟨ga, 0 + 0 * 20, none⟩ rfl rfl (fun V hV => rangeK_loads (range_below R1 hV (Nat.lt_of_lt_of_le l1 hW.size)) underlying53 rfl infInfo35) ?_
  simp only [Act.put, lsA, lsB, lsC]
  refine wpQuiet_val (v := .pointer (some ⟨w.heap.size + 1, 1, none⟩)) rfl (fun W hW => rfl) ?_
  simp only [Act.put, lsA, lsB, lsC]
  refine wpQuiet_ld (v := .slice (some ⟨gb, 0, none⟩) 1 kb) 22 (.tmp 61) rfl ⟨w.heap.size + 1, 1, none⟩ rfl rfl (fun V hV => run_load1 underlying22 rfl ((Y2.below hV Y2.lt).cell_ 1 rfl)) ?_
  simp only [Act.put, lsA, lsB, lsC]
  (refine wpQuiet_val (v := (.int .i64 0)) rfl (fun W hW => by first | (go_simp; done) | (go_simp; omega)) ?_; simp only [Act.put, lsA, lsB, lsC])
  refine wpQuiet_val (v := .pointer (some ⟨gb, 0 + 0 * 20, none⟩)) rfl (fun W hW => exec_ixK underlying22 infInfo35 (by omega) (.tmp 62) (.tmp 63) rfl rfl rfl (by decide) W) ?_
  simp only [Act.put, lsA, lsB, lsC]
  refine wpQuiet_ld (v := .agg (infC wkI).toArray) 53 (.tmp 64) rfl ⟨gb, 0 + 0 * 20, none⟩ rfl rfl (fun V hV => rangeK_loads (range_below R2 hV (Nat.lt_of_lt_of_le l2 hW.size)) underlying53 rfl infInfo35) ?_
  simp only [Act.put, lsA, lsB, lsC]
  refine wpQuiet_val (v := .bool false) rfl (fun W hW => exec_neqI (.tmp 60) (.tmp 65) rfl rfl rfl W) ?_
  simp only [Act.put, lsA, lsB, lsC]
  refine wpQuiet_nil ?_
  intro w4 hB4
  have HW := below_then hW hW.size hB4
  clear hW hB4 R1 R2 Y1 Y2 a1 a2
  go_wp2_with fail
  go_roundw
  case rel => exact ⟨1, Nat.le_refl _, rfl, HW⟩
  case measure => simp [intOf]
 ·
  go_wp2_with fail
  go_ret
  exact RetB.mk rfl (below_then HB HB.size hW)
end Go.Proofs.YtkcbffldncmbcaaGreatDoor
