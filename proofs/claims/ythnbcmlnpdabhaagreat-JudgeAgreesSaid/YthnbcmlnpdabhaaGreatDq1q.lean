/-
  Layer 28, the reference: SameOuts, FewEvents; the laws' own: same.
-/
import Derived.Test.YthnbcmlnpdabhaaGreatHWq
import Derived.Test.YthnbcmlnpdabhaaGreatIMq
namespace Go.Proofs.YthnbcmlnpdabhaaGreat
open _root_.Go.Proofs.Tryz
open Go.RowKit
set_option maxRecDepth 100000
set_option linter.unusedVariables false
set_option linter.unusedSimpArgs false
theorem zz : (prog.info? 97).map (·.size) = some 21 := by kernel_rfl
theorem Ks {x y : Ou} {o : Oper} {a : Act} (p q : Operand) (ho : o.op = .binOp .neq 97 p q 97) (hx : a.eval p = .agg (xu x).toArray) (hy : a.eval q = .agg (xu y).toArray) (h1 : x.to_.ip.length = 16) (h2 : y.to_.ip.length = 16) (w : World) : (execOp a.eval o).run prog w = .ok (.value (.bool (!decide (x = y)))) w := by
 have hr := Qi x y h1 h2 w;have hg : (eqGuard .neq 97 p q (.agg (xu x).toArray) (.agg (xu y).toArray)).run prog w = .ok () w := run_eqGuard_agg w _ _ _ _ _ _ Tryz.eqGuardType97;unfold execOp;simp only [ho, hx, hy, Sem.run_bind, hg, run_neq_struct, hr, Result.andThen_ok, Sem.run_pure]
set_option maxHeartbeats 1000000 in
theorem Gb (A B : Option Addr) (ca cb : Nat) (la lb : List Ou) (w : World) (hA : Nk w A la) (hB : Nk w B lb) (hl : la.length <= 100000000) (hl2 : lb.length <= 100000000) :
  Calls prog 25 #[.slice A la.length ca, .slice B lb.length cb] w (nM (.bool (decide (la = lb))) w) := by
 obtain ⟨R, hR⟩ : ∃ R, Hid (decide (la = lb) = R) := eD;rw [hR.out];by_cases hll : la.length = lb.length
 case neg => have hR2 : Hid (R = false) := Hh (by rw [<- hR.out]; exact decide_eq_false (fun h => hll bf));have hll' : ((la.length : Int) != lb.length) = true := al;clear hll hR;go_enter func25, ntmps25;go_wp2_with fail;go_ret;rw [hR2.out];exact nM.mk rfl (Below.refl _ _)
 have hll' : ((la.length : Int) != lb.length) = false := al;go_enter func25, ntmps25;go_wp2_with fail;go_loopw [5] (fun iv wr => ∃ k : Nat, k <= la.length /\ iv = .int .i64 k /\ (∀ i (h1 : i < k) (h2 : i < la.length) (h3 : i < lb.length), la[i] = lb[i]) /\ Below w.heap.size w wr) (fun iv _ => la.length - (intOf iv).toNat)
 case atStart => exact ⟨0, Nat.zero_le _, rfl, fun i h => absurd h ak, Below.refl _ _⟩
 obtain ⟨k, hk, rfl, he, hW⟩ := hrel;have HE := Hh he;clear he;by_cases hlt : k < la.length
 case pos =>
  have hlt' : (k : Int) < la.length := ak;have hlt2 : k < lb.length := ak;obtain ⟨ba, oa, hA1, la1, xa⟩ := hA.2 ak;obtain ⟨bb, ob, hB1, lb1, xb⟩ := hB.2 ak;subst hA1 hB1;have ra := xa k hlt;have rb := xb k hlt2;have ia := hA.1 _ (List.getElem_mem hlt);have ib := hB.1 _ (List.getElem_mem hlt2);have HD : Hid (la[k] ≠ lb[k] -> la ≠ lb) := Hh (fun h => TT hlt hlt2 h);have HY : Hid (la[k] = lb[k] -> ∀ i (h1 : i < k + 1) (h2 : i < la.length) (h3 : i < lb.length), la[i] = lb[i]) := Hh (fun h i h1 h2 h3 => by
   by_cases hik : i < k
   ·exact HE.out i hik h2 h3
   ·
    obtain rfl : i = k := ak;exact h)
  clear xa xb HE;generalize la[k] = x at *;generalize lb[k] = y at *;go_wp2_with fail;refine rH (by kernel_rfl) (by kernel_rfl) ?_
  (refine nS (v := (.slice (some ⟨ba, oa, none⟩) la.length ca)) rfl (fun W hW => by first | (go_simp; done) | (go_simp; omega)) ?_; simp only [Act.put, nB, nC, nD])
  (refine nS (v := (.int .i64 k)) rfl (fun W hW => by first | (go_simp; done) | (go_simp; omega)) ?_; simp only [Act.put, nB, nC, nD])
  refine nS (v := .pointer (some ⟨ba, oa + k * 21, none⟩)) rfl (fun W hW => AY underlying34 zz ak (.tmp 17) (.tmp 18) rfl rfl rfl hlt W) ?_;simp only [Act.put, nB, nC, nD];refine pI (v := .agg (xu x).toArray) 97 (.tmp 19) rfl ⟨ba, oa + k * 21, none⟩ rfl rfl (fun V hV => vb (nO (nO ra hW la1) hV (Nat.lt_of_lt_of_le la1 hW.size)) underlying97 rfl (by rw [wP ia]; exact zz)) ?_;simp only [Act.put, nB, nC, nD]
  (refine nS (v := (.slice (some ⟨bb, ob, none⟩) lb.length cb)) rfl (fun W hW => by first | (go_simp; done) | (go_simp; omega)) ?_; simp only [Act.put, nB, nC, nD])
  (refine nS (v := (.int .i64 k)) rfl (fun W hW => by first | (go_simp; done) | (go_simp; omega)) ?_; simp only [Act.put, nB, nC, nD])
  refine nS (v := .pointer (some ⟨bb, ob + k * 21, none⟩)) rfl (fun W hW => AY underlying34 zz ak (.tmp 21) (.tmp 22) rfl rfl rfl hlt2 W) ?_;simp only [Act.put, nB, nC, nD];refine pI (v := .agg (xu y).toArray) 97 (.tmp 23) rfl ⟨bb, ob + k * 21, none⟩ rfl rfl (fun V hV => vb (nO (nO rb hW lb1) hV (Nat.lt_of_lt_of_le lb1 hW.size)) underlying97 rfl (by rw [wP ib]; exact zz)) ?_;simp only [Act.put, nB, nC, nD];refine nS (v := .bool (!decide (x = y))) rfl (fun W hW => Ks (.tmp 20) (.tmp 24) rfl rfl rfl ia ib W) ?_;simp only [Act.put, nB, nC, nD];refine wpQuiet_nil ?_;intro w4 hB4;have HW := nc hW hW.size hB4;clear hW hB4 ra rb;by_cases hxy : x = y
  case neg => have hn := HD.out hxy;have hR2 : Hid (R = false) := Hh (by rw [<- hR.out]; exact decide_eq_false hn);rw [decide_eq_false hxy];clear hxy hn hR HD HY;go_wp2_with fail;go_ret;rw [hR2.out];exact nM.mk rfl HW
  have hy := HY.out hxy;have HE := Hh hy;rw [decide_eq_true hxy];clear hxy hy HD HY;go_wp2_with fail;go_roundw
  case rel => exact ⟨k + 1, ak, eh, HE.out, HW⟩
  case measure => simp [intOf]; omega
 obtain rfl : k = la.length := ak;have hlt' : ¬ (la.length : Int) < la.length := ak;have hR2 : Hid (R = true) := Hh (by
  rw [<- hR.out];exact decide_eq_true (List.ext_getElem hll (fun i h1 h2 => HE.out i h1 h1 h2)))
 clear HE hR;go_wp2_with fail;go_ret;rw [hR2.out];exact nM.mk rfl hW
end Go.Proofs.YthnbcmlnpdabhaaGreat
