/-
  Layer 47: report.read, of an address's line.
-/
import Derived.Test.YtkcbffldncmbcaaGreatDoorTy28q
namespace Go.Proofs.YtkcbffldncmbcaaGreatDoor
open _root_.Go.Proofs.Tryz
open Go.RowKit
set_option maxRecDepth 100000
set_option linter.unusedVariables false
set_option linter.unusedSimpArgs false
def RdA (gr : Nat) (L : List Value) (ic : List Value) (w : World) (e : Ending) (w' : World) : Prop :=
 ∃ g cap, e = .returned (.int .i64 0) ∧ Blk w' gr 35 (L.set 1 (.slice (some ⟨g, 0, none⟩) 1 cap)) ∧ w'.ownsRow w.heap.size 53 20 (.slice (some ⟨g, 0, none⟩) 1 cap) 1 ic ∧ w.grownBy w' (some gr)
theorem infInfo3 : (prog.info? 53).map (fun i => (i.zero, i.size, i.bytes)) = some (some (.agg infZ.toArray), 20, 48) := by kernel_rfl
theorem exec_bsX {P : Program} {w w' : World} {o : Oper} {a : Act} {t : TypeId} {cs : List Value} {v : Value} (x : Operand) (ho : o.op = .buildSlice t 1 #[(0, x)]) (hx : a.eval x = .agg cs.toArray) (hr : (Instr.buildSlice t 1 #[(0, .agg cs.toArray)]).run P w = .ok v w') : (execOp a.eval o).run P w = .ok (.value v) w' := by
 unfold execOp
 simp only [ho, Sem.run_bind, Sem.run_pure, Result.andThen_ok, List.map_toArray, List.map_cons, List.map_nil, hx, hr]
theorem exec_stX {w w' : World} {g o : Nat} {t : TypeId} {v : Value} {op : Oper} {a : Act} (x y : Operand) (ho : op.op = .store t x y) (hx : a.eval x = .pointer (some ⟨g, o, none⟩)) (hy : a.eval y = v) (hr : (Instr.storeAt t (.pointer (some ⟨g, o, none⟩)) v).run prog w = .ok () w') : (execOp a.eval op).run prog w = .ok .skip w' := by
 unfold execOp
 simp only [ho, hx, hy, Sem.run_bind, hr, Result.andThen_ok, Sem.run_pure]
set_option maxHeartbeats 4000000 in
theorem readAddr_any (a b c d : UInt8) (port : Nat) (hp : port ≤ 65535) (k : Nat) (hk : k < kindL.length) (gr : Nat) (L : List Value) (hL : L.length = 6) (hL1 : L[1]? = some (.slice none 0 0)) (ba oa cap : Nat) (w : World) (hT : Tb w) (hg : Blk w gr 35 L) (la : ba < w.heap.size)
  (c0 : w.cell? ⟨ba, oa, none⟩ = some (.string (bs [97, 100, 100, 114]))) (c1 : w.cell? ⟨ba, oa + 1, none⟩ = some (.string (bs (quadT a.toNat b.toNat c.toNat d.toNat)))) (c2 : w.cell? ⟨ba, oa + 2, none⟩ = some (.string (bs (Lib.itoa (port : Int))))) (c3 : w.cell? ⟨ba, oa + 3, none⟩ = some (.string (bs kindL[k]))) :
  Calls prog 40 #[.pointer (some ⟨gr, 0, none⟩), .slice (some ⟨ba, oa, none⟩) 4 cap] w (RdA gr L (infC ⟨quadA a b c d, port, 1 + (k : Int)⟩) w) := by
 have HL1 := Hh hL1
 have IN := Hh (fun V (hV : Below w.heap.size w V) => info_any a b c d port hp k hk ba oa cap V (hT.below hV) (Nat.lt_of_lt_of_le la hV.size) ((hV.cell (p := ⟨ba, oa + 1, none⟩) la).trans c1) ((hV.cell (p := ⟨ba, oa + 2, none⟩) la).trans c2) ((hV.cell (p := ⟨ba, oa + 3, none⟩) la).trans c3))
 have hio := infC_one ⟨quadA a b c d, port, 1 + (k : Int)⟩
 have hil : (infC ⟨quadA a b c d, port, 1 + (k : Int)⟩).length = 20 := rfl
 generalize infC ⟨quadA a b c d, port, 1 + (k : Int)⟩ = ic at *
 clear hT c1 c2 c3 hL1
 have hgl := hg.lt
 have Zb := Blk.new w 53 infZ
 have BB : Below w.heap.size w (w.alloc (.cells infZ.toArray 53)) := (Below.refl _ _).alloc (Nat.le_refl _) _
 have X0 := hg.below BB hgl
 go_enter func40, ntmps40
 go_wp2_with fail
 refine (IN.out _ BB).mono ?_
 rintro _ w2 ⟨rfl, b1⟩
 have Y := Zb.below b1 Zb.lt
 have X1 := X0.below b1 X0.lt
 have S2 := below_then BB BB.size b1
 clear IN Zb BB X0 b1 hg c0
 have h20 : infZ.length = 20 := rfl
 go_wp2_with (refine at_op (.store 53 (.tmp 7) (.tmp 82)) rfl ?_; go_must (refine wpList_stB rfl _ _ _ rfl w.heap.size 0 rfl ic rfl Y (by omega) (by rw [hil]; exact infInfo) hio ?_))
 intro w3 B3 g3 _
 have Y3 := blkAll B3 (by omega)
 have X3 := X1.grown g3 (by intro e; injection e with e; omega)
 have S3 : Below w.heap.size w w3 := below_grown S2 g3 S2.size (Nat.le_refl _)
 obtain ⟨gb, hgb⟩ : ∃ gb, Hid (w.heap.size = gb) := ⟨_, Hh rfl⟩
 have hbr : gb ≠ gr := by have := hgb.out; omega
 rw [hgb.out] at Y3
 clear B3 g3 Y X1 S2
 go_wp2_with fail
 rw [hgb.out]
 refine wp_region_held_drew (S := fun _ => True) (by kernel_rfl) trivial (fun hS => ?_)
 refine held_seq hS 4 [0,1,2,3] rfl (by kernel_rfl) (fun _ _ _ _ _ h => h) rfl rfl ?_
 (refine ⟨_, (.pointer (some ⟨gr, 0, none⟩)), rfl, .inl ⟨rfl, fun V hV => rfl⟩, ?_⟩; simp only [Act.put, lsA, lsB, lsC])
 (refine ⟨_, (.pointer (some ⟨gr, 0, none⟩)), rfl, .inl ⟨rfl, fun V hV => rfl⟩, ?_⟩; simp only [Act.put, lsA, lsB, lsC])
 (refine ⟨_, (.pointer (some ⟨gr, 0, none⟩)), rfl, .inl ⟨rfl, fun V hV => (by go_simp)⟩, ?_⟩; simp only [Act.put, lsA, lsB, lsC])
 (refine ⟨_, (.pointer (some ⟨gr, 1, none⟩)), rfl, .inl ⟨rfl, fun V hV => (by go_simp)⟩, ?_⟩; simp only [Act.put, lsA, lsB, lsC])
 simp only [SeqC]
 have X : Blk w3.drew gr 35 L := X3
 have Y : Blk w3.drew gb 53 ic := Y3
 have S4 : Below w.heap.size w w3.drew := S3.drew
 obtain ⟨V0, hV0⟩ : ∃ V0, Hid (w3.drew = V0) := ⟨_, Hh rfl⟩
 rw [hV0.out] at X Y S4 ⊢
 clear hV0 X3 Y3 S3
 obtain ⟨VA, hVA⟩ : ∃ VA, Hid (V0.alloc (.cells ic.toArray 53) = VA) := ⟨_, Hh rfl⟩
 have kn : Below V0.heap.size V0 (V0.alloc (.cells ic.toArray 53)) := (Below.refl _ _).alloc (Nat.le_refl _) _
 have XA := X.below kn X.lt
 have SA := below_then S4 S4.size kn
 have NB := Blk.new V0 53 ic
 have HBS := run_bsG V0 22 53 _ 20 48 underlying22 infInfo3 (by decide) (by decide) ic hil
 obtain ⟨gn, hgn⟩ : ∃ gn, Hid (V0.heap.size = gn) := ⟨_, Hh rfl⟩
 rw [hVA.out] at XA SA NB HBS
 rw [hgn.out] at NB HBS
 have hrg := NB.range 0 20 (by omega)
 rw [List.drop_zero, List.take_of_length_le (by omega)] at hrg
 obtain ⟨v', w5, hr, ho, hg5⟩ := run_appG (P := prog) VA 22 22 53 (.agg infZ.toArray) 20 48 underlying22 infInfo3 rfl (by decide) w.heap.size (.slice none 0 0) 0 [] (World.ownsRow_nil _ _ _ _) SA.size (some ⟨gn, 0, none⟩) 1 1 ic (fun _ => ⟨gn, 0, rfl, hrg⟩) (by omega) hio (by simp only [maxLen]; omega) (by omega)
 rw [Nat.zero_add, List.nil_append] at ho
 have hfm : ∃ g cp, v' = .slice (some ⟨g, 0, none⟩) 1 cp ∧ w.heap.size ≤ g := by
  rcases ho.2 with ⟨_, h0⟩ | ⟨g, cp, cur, hv, hB, _⟩
  ·
   omega
  ·
   exact ⟨g, cp, hv, hB⟩
 obtain ⟨g, cp, rfl, hgw⟩ := hfm
 have X5 := XA.grown hg5 (by simp [Value.ownBlock])
 have S5 : Below w.heap.size w w5 := SA.grown hg5 SA.size (fun k hk => by simp [Value.ownBlock] at hk)
 have hst := run_stC (P := prog) (ty := 22) (v := .slice (some ⟨g, 0, none⟩) 1 cp) X5 (o := 1) (by omega) (by kernel_rfl) rfl rfl
 have X6 := X5.set 1 (.slice (some ⟨g, 0, none⟩) 1 cp)
 have G6 : w.grownBy (w5.setCell ⟨gr, 1, none⟩ (.slice (some ⟨g, 0, none⟩) 1 cp)) (some gr) := grown_set (grown_of_below S5 (some gr)) 1 _
 have H6 : (w5.setCell ⟨gr, 1, none⟩ (.slice (some ⟨g, 0, none⟩) 1 cp)).ownsRow w.heap.size 53 20 (.slice (some ⟨g, 0, none⟩) 1 cp) 1 ic := World.ownsRow.kept ho (grown_set (World.grownBy.refl w5 (some gr)) 1 _) (.inr (by simp [Value.ownBlock]; omega))
 have XV := XA
 clear kn NB hrg ho hg5 XA SA S5 X5
 refine held_two 4 5 (by kernel_rfl) ?_ ?_
 ·
  refine op_run 4 (some 88) rfl rfl (by kernel_rfl) (exec_ld 22 (.tmp 87) ⟨gr, 1, none⟩ rfl rfl (run_load1 underlying22 rfl (X.cell_ 1 HL1.out))) ⟨trivial, ?_⟩
  simp only [Act.put, lsA, lsB, lsC]
  refine held_run 5 (some 89) (by kernel_rfl) rfl rfl (by kernel_rfl) (exec_ld 53 (.tmp 7) ⟨gb, 0, none⟩ rfl rfl (Y.loads 53 0 20 (by omega) _ underlying53 rfl infInfo ic (tk0 (by omega)))) trivial ?_
  simp only [Act.put, lsA, lsB, lsC]
  refine held_run 6 (some 90) (by kernel_rfl) rfl rfl (by kernel_rfl) (exec_bsX (.tmp 89) rfl rfl HBS) trivial ?_
  simp only [Act.put, lsA, lsB, lsC]
  refine held_run 7 (some 91) (by kernel_rfl) rfl rfl (by kernel_rfl) (v := .slice (some ⟨g, 0, none⟩) 1 cp) (w' := w5) (exec_apH (.tmp 88) (.tmp 90) rfl rfl rfl rfl hr) trivial ?_
  simp only [Act.put, lsA, lsB, lsC]
  refine held_seq hS 2 [8,9] rfl (by kernel_rfl) (fun _ _ _ _ _ h => h) rfl rfl ?_
  (refine ⟨_, (.pointer (some ⟨gr, 0, none⟩)), rfl, .inl ⟨rfl, fun V hV => (by go_simp)⟩, ?_⟩; simp only [Act.put, lsA, lsB, lsC])
  (refine ⟨_, (.pointer (some ⟨gr, 1, none⟩)), rfl, .inl ⟨rfl, fun V hV => (by go_simp)⟩, ?_⟩; simp only [Act.put, lsA, lsB, lsC])
  simp only [SeqC]
  refine held_skip 10 none (by kernel_rfl) rfl rfl (by kernel_rfl) (exec_stX (.tmp 93) (.tmp 91) rfl rfl rfl hst) trivial ?_
  simp only [Act.put, lsA, lsB, lsC]
  refine wpAnyH_done (by kernel_rfl) ?_ _
  go_wp2_with fail
  go_ret
  exact ⟨g, cp, rfl, X6, H6, G6⟩
 ·
  refine op_run 5 (some 89) rfl rfl (by kernel_rfl) (exec_ld 53 (.tmp 7) ⟨gb, 0, none⟩ rfl rfl (Y.loads 53 0 20 (by omega) _ underlying53 rfl infInfo ic (tk0 (by omega)))) ⟨trivial, ?_⟩
  simp only [Act.put, lsA, lsB, lsC]
  refine held_two 4 6 (by kernel_rfl) ?_ ?_
  ·
   refine op_run 4 (some 88) rfl rfl (by kernel_rfl) (exec_ld 22 (.tmp 87) ⟨gr, 1, none⟩ rfl rfl (run_load1 underlying22 rfl (X.cell_ 1 HL1.out))) ⟨trivial, ?_⟩
   simp only [Act.put, lsA, lsB, lsC]
   refine held_run 6 (some 90) (by kernel_rfl) rfl rfl (by kernel_rfl) (exec_bsX (.tmp 89) rfl rfl HBS) trivial ?_
   simp only [Act.put, lsA, lsB, lsC]
   refine held_run 7 (some 91) (by kernel_rfl) rfl rfl (by kernel_rfl) (v := .slice (some ⟨g, 0, none⟩) 1 cp) (w' := w5) (exec_apH (.tmp 88) (.tmp 90) rfl rfl rfl rfl hr) trivial ?_
   simp only [Act.put, lsA, lsB, lsC]
   refine held_seq hS 2 [8,9] rfl (by kernel_rfl) (fun _ _ _ _ _ h => h) rfl rfl ?_
   (refine ⟨_, (.pointer (some ⟨gr, 0, none⟩)), rfl, .inl ⟨rfl, fun V hV => (by go_simp)⟩, ?_⟩; simp only [Act.put, lsA, lsB, lsC])
   (refine ⟨_, (.pointer (some ⟨gr, 1, none⟩)), rfl, .inl ⟨rfl, fun V hV => (by go_simp)⟩, ?_⟩; simp only [Act.put, lsA, lsB, lsC])
   simp only [SeqC]
   refine held_skip 10 none (by kernel_rfl) rfl rfl (by kernel_rfl) (exec_stX (.tmp 93) (.tmp 91) rfl rfl rfl hst) trivial ?_
   simp only [Act.put, lsA, lsB, lsC]
   refine wpAnyH_done (by kernel_rfl) ?_ _
   go_wp2_with fail
   go_ret
   exact ⟨g, cp, rfl, X6, H6, G6⟩
  ·
   refine op_run 6 (some 90) rfl rfl (by kernel_rfl) (exec_bsX (.tmp 89) rfl rfl HBS) ⟨trivial, ?_⟩
   simp only [Act.put, lsA, lsB, lsC]
   refine held_run 4 (some 88) (by kernel_rfl) rfl rfl (by kernel_rfl) (exec_ld 22 (.tmp 87) ⟨gr, 1, none⟩ rfl rfl (run_load1 underlying22 rfl (XV.cell_ 1 HL1.out))) trivial ?_
   simp only [Act.put, lsA, lsB, lsC]
   refine held_run 7 (some 91) (by kernel_rfl) rfl rfl (by kernel_rfl) (v := .slice (some ⟨g, 0, none⟩) 1 cp) (w' := w5) (exec_apH (.tmp 88) (.tmp 90) rfl rfl rfl rfl hr) trivial ?_
   simp only [Act.put, lsA, lsB, lsC]
   refine held_seq hS 2 [8,9] rfl (by kernel_rfl) (fun _ _ _ _ _ h => h) rfl rfl ?_
   (refine ⟨_, (.pointer (some ⟨gr, 0, none⟩)), rfl, .inl ⟨rfl, fun V hV => (by go_simp)⟩, ?_⟩; simp only [Act.put, lsA, lsB, lsC])
   (refine ⟨_, (.pointer (some ⟨gr, 1, none⟩)), rfl, .inl ⟨rfl, fun V hV => (by go_simp)⟩, ?_⟩; simp only [Act.put, lsA, lsB, lsC])
   simp only [SeqC]
   refine held_skip 10 none (by kernel_rfl) rfl rfl (by kernel_rfl) (exec_stX (.tmp 93) (.tmp 91) rfl rfl rfl hst) trivial ?_
   simp only [Act.put, lsA, lsB, lsC]
   refine wpAnyH_done (by kernel_rfl) ?_ _
   go_wp2_with fail
   go_ret
   exact ⟨g, cp, rfl, X6, H6, G6⟩
end Go.Proofs.YtkcbffldncmbcaaGreatDoor
