/-
  Layer 47: report.read, of a code's line.
-/
import Derived.Test.YtkcbffldncmbcaaGreatDoorTFq
namespace Go.Proofs.YtkcbffldncmbcaaGreatDoor
open _root_.Go.Proofs.Tryz
open Go.RowKit
set_option maxRecDepth 100000
set_option linter.unusedVariables false
set_option linter.unusedSimpArgs false
def RdL (gr : Nat) (L : List Value) (w : World) (e : Ending) (w' : World) : Prop := e = .returned (.int .i64 0) ∧ Blk w' gr 35 L ∧ w.grownBy w' (some gr)
theorem intInfo28 : (prog.info? 3).map (·.size) = some 1 := by kernel_rfl
theorem exec_stI {w w' : World} {g o : Nat} {n : Int} {op : Oper} {a : Act} (x y : Operand) (ho : op.op = .store 3 x y) (hx : a.eval x = .pointer (some ⟨g, o, none⟩)) (hy : a.eval y = .int .i64 n) (hr : (Instr.storeAt 3 (.pointer (some ⟨g, o, none⟩)) (.int .i64 n)).run prog w = .ok () w') : (execOp a.eval op).run prog w = .ok .skip w' := by
 unfold execOp
 simp only [ho, hx, hy, Sem.run_bind, hr, Result.andThen_ok, Sem.run_pure]
set_option maxHeartbeats 4000000 in
theorem readCode_any (k : Nat) (hk : k < codeL.length) (gr : Nat) (L : List Value) (hL : L.length = 6) (ba oa cap : Nat) (w : World) (hg : Blk w gr 35 L) (la : ba < w.heap.size) (hne : ba ≠ gr)
  (c0 : w.cell? ⟨ba, oa, none⟩ = some (.string (bs [99, 111, 100, 101]))) (c1 : w.cell? ⟨ba, oa + 1, none⟩ = some (.string (bs codeL[k]))) :
  Calls prog 40 #[.pointer (some ⟨gr, 0, none⟩), .slice (some ⟨ba, oa, none⟩) 2 cap] w (RdL gr (L.set 0 (.int .i64 k)) w) := by
 have WD := Hh (fun V => words_any V)
 have NU := Hh (fun g V hg => numeral_any codeL (by decide) 0 (.inl rfl) k hk codeL[k] rfl (by
  intro j h hj hc
  have hinj : ∀ i j : Fin 11, codeL[i.val]'(i.isLt) = codeL[j.val]'(j.isLt) → i = j := by decide
  have := hinj ⟨j, h⟩ ⟨k, hk⟩ hc
  have h2 : j = k := congrArg Fin.val this
  omega) g V hg)
 rw [Int.zero_add] at NU
 generalize codeL[k] = tk at *
 go_enter func40, ntmps40
 go_wp2_with fail
 refine wp_region_held_drew (S := fun V => V.cell? ⟨ba, oa + 1, none⟩ = some (.string (bs tk))) (by kernel_rfl) c1 (fun hS => ?_)
 refine held_seq hS 4 [0,2,3,4] rfl (by kernel_rfl) (fun _ _ _ _ _ h => h) rfl rfl ?_
 (refine ⟨_, (.pointer (some ⟨gr, 0, none⟩)), rfl, .inl ⟨rfl, fun V hV => rfl⟩, ?_⟩; simp only [Act.put, lsA, lsB, lsC])
 (refine ⟨_, (.slice (some ⟨ba, oa, none⟩) 2 cap), rfl, .inl ⟨rfl, fun V hV => rfl⟩, ?_⟩; simp only [Act.put, lsA, lsB, lsC])
 (refine ⟨_, (.pointer (some ⟨ba, oa + 1, none⟩)), rfl, .inl ⟨rfl, fun V hV => (by go_simp)⟩, ?_⟩; simp only [Act.put, lsA, lsB, lsC])
 (refine ⟨_, _, rfl, .inl ⟨rfl, fun V hV => (exec_ld 9 (.tmp 34) ⟨ba, oa + 1, none⟩ rfl rfl (run_load1 underlying9 rfl hV))⟩, ?_⟩; simp only [Act.put, lsA, lsB, lsC])
 simp only [SeqC]
 refine held_call 1 (some 32) 21 #[] (by kernel_rfl) rfl rfl (by kernel_rfl) (by go_simp) (WD.out _) ?_
 rintro _ V2 ⟨gk, rfl, hgk, _, b1⟩
 have hS2 : V2.cell? ⟨ba, oa + 1, none⟩ = some (.string (bs tk)) := (b1.cell (p := ⟨ba, oa + 1, none⟩) la).trans hS
 have X : Blk V2 gr 35 L := Blk.below (w := w.drew) hg b1 hg.lt
 have G : w.grownBy V2 (some gr) := grown_of_below (Below.trans (Below.refl w.heap.size w).drew b1) (some gr)
 clear hS b1 WD hg
 refine ⟨_, rfl, hS2, ?_⟩
 simp only [Act.put, lsA, lsB, lsC]
 have hS := hS2
 clear hS2
 refine held_call 5 (some 36) 56 #[.slice (some ⟨gk, 0, none⟩) codeL.length codeL.length, .int .i64 0, .string (bs tk)] (by kernel_rfl) rfl rfl (by kernel_rfl) (by go_simp) (NU.out gk V2 hgk) ?_
 rintro _ V9 ⟨rfl, rfl⟩
 clear NU hgk
 refine ⟨_, rfl, hS, ?_⟩
 simp only [Act.put, lsA, lsB, lsC]
 refine held_seq hS 5 [6,7,8,9,10] rfl (by kernel_rfl) (fun _ _ _ _ _ h => h) rfl rfl ?_
 (refine ⟨_, (.tuple #[.int .i64 k, .bool true]), rfl, .inl ⟨rfl, fun V hV => rfl⟩, ?_⟩; simp only [Act.put, lsA, lsB, lsC])
 (refine ⟨_, (.int .i64 k), rfl, .inl ⟨rfl, fun V hV => (by go_simp)⟩, ?_⟩; simp only [Act.put, lsA, lsB, lsC])
 (refine ⟨_, (.bool true), rfl, .inl ⟨rfl, fun V hV => (by go_simp)⟩, ?_⟩; simp only [Act.put, lsA, lsB, lsC])
 (refine ⟨_, (.pointer (some ⟨gr, 0, none⟩)), rfl, .inl ⟨rfl, fun V hV => (by go_simp)⟩, ?_⟩; simp only [Act.put, lsA, lsB, lsC])
 (refine ⟨_, (.pointer (some ⟨gr, 0, none⟩)), rfl, .inl ⟨rfl, fun V hV => (by go_simp)⟩, ?_⟩; simp only [Act.put, lsA, lsB, lsC])
 simp only [SeqC]
 have hst := run_stC (P := prog) (ty := 3) (v := .int .i64 (k : Int)) X (o := 0) (by omega) intInfo28 rfl rfl
 have hS3 : (V2.setCell ⟨gr, 0, none⟩ (.int .i64 (k : Int))).cell? ⟨ba, oa + 1, none⟩ = some (.string (bs tk)) := by
  rw [World.cell?_setCell_other _ _ _ _ (by intro e; exact hne (congrArg Addr.block e).symm)]
  exact hS
 refine held_skip 11 none (by kernel_rfl) rfl rfl (by kernel_rfl) (exec_stI (.tmp 40) (.tmp 37) rfl rfl rfl hst) hS3 ?_
 simp only [Act.put, lsA, lsB, lsC]
 have X2 := X.set 0 (.int .i64 (k : Int))
 have G2 : w.grownBy (V2.setCell ⟨gr, 0, none⟩ (.int .i64 (k : Int))) (some gr) := grown_set G 0 _
 clear hS X G hst
 have hS := hS3
 clear hS3
 refine held_seq hS 1 [12] rfl (by kernel_rfl) (fun _ _ _ _ _ h => h) rfl rfl ?_
 (refine ⟨_, (.bool true), rfl, .inl ⟨rfl, fun V hV => rfl⟩, ?_⟩; simp only [Act.put, lsA, lsB, lsC])
 simp only [SeqC]
 refine wpAnyH_done (by kernel_rfl) ?_ _
 clear hS c0 c1
 go_wp2_with fail
 go_ret
 exact ⟨rfl, X2, G2⟩
end Go.Proofs.YtkcbffldncmbcaaGreatDoor
