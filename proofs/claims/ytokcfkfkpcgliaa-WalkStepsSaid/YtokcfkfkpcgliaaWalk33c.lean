/-
  Layer 33 (walk): Through, as the law's works() calls it.
-/
import Derived.Test.YtokcfkfkpcgliaaWalk33b
namespace Go.Proofs.Ytokcfkfkpcgliaa
open Go.RowKit

theorem idle_through (p q : Addr) (w : World) :
    CallsD Try.prog 69 #[.pointer (some p), .pointer (some q)] .returning w fun e u' w' => e = .returned (.tuple #[]) ∧ u' = .returning ∧ w' = w := by
  refine callsD_of_wpS Try.func69 rfl fun c₀ cs hu => ?_
  apply wpS_seq
  apply wpS_region
  simp [wpOpsS, go_sem, recoverD, hu, Try.ntmps69, Exit.thenS]
  refine wpS_cond (t := false) (by simp [Act.eval, Array.replicate]) ?_
  simp only [Bool.false_eq_true, if_false]
  refine wpS_of_wp (wp_skip ?_)
  cases c₀
  simp_all [bodyPostS, results, Try.results69]

theorem told_one (w : World) : Calls Try.prog 50 #[.int .i64 1] w (Ret (.int .i64 3) w) := by
  go_enter Try.func50, Try.ntmps50
  go_wp2
  go_ret
  exact Ret.mk rfl rfl
theorem told_two (w : World) : Calls Try.prog 50 #[.int .i64 2] w (Ret (.int .i64 1) w) := by
  go_enter Try.func50, Try.ntmps50
  go_wp2
  go_ret
  exact Ret.mk rfl rfl

theorem intInfo : (Try.prog.info? 3).map (fun i => (i.zero, i.size, i.bytes)) = some (some (.int .i64 0), 1, 8) := by kernel_rfl

/-- What works() hears of Through. -/
def ThroughPost (w : World) (e : Ending) (w' : World) : Prop :=
  ∃ g c, e = .returned (.tuple #[.int .i64 1, .slice (some ⟨g, 0, none⟩) 2 c]) ∧ w'.cell? ⟨g, 0, none⟩ = some (.int .i64 0) ∧ w'.cell? ⟨g, 1, none⟩ = some (.int .i64 1) ∧ Below w.heap.size w w'

def k12 (i : Nat) : Int := if i = 0 then 1 else 2
def s0 (_ : Nat) (j : Nat) : Bool := j == 0

set_option maxRecDepth 100000 in
set_option maxHeartbeats 1000000 in
theorem through_works (b off c : Nat) (w : World) (hb : b < w.heap.size) (h : Srcs w (some ⟨b, off, none⟩) 2 k12 s0)
    (hc0 : w.cell? ⟨b, off, none⟩ = some (.int .i64 1)) (hc1 : w.cell? ⟨b, off + 5, none⟩ = some (.int .i64 2)) :
    Calls Try.prog 49 #[.slice (some ⟨b, off, none⟩) 2 c, .func (.func 50) #[] #[]] w (ThroughPost w) := by
  have hmf : ∀ (fn : Fn) (first cap : Array Value) (w : World), (Instr.makeFunc fn first cap).run Try.prog w = .ok (.func fn first cap) w := fun _ _ _ _ => rfl
  have hfn : ∀ w : World, (binOp .eql 30 (.func (.func 50) #[] #[]) .nilFunc).run Try.prog w = .ok (.bool false) w := fun _ => by kernel_rfl
  go_enter_defers Try.func49, Try.ntmps49
  go_wp2_with fail
  refine wp_loop_rounds 3 ?_
  rw [rounds_succ]
  go_wp2_with (at_builtin; go_must (refine wpList_app _ rfl (.tmp 17) (.tmp 19) 72 rfl 3 (.int .i64 0) 1 8 Try.underlying72 intInfo rfl (by decide) (.slice none 0 0) 0 [] rfl (World.ownsRow_nil _ _ _ _) ⟨w.heap.size + 1 + 1, 0, none⟩ 1 1 [.int .i64 0] rfl rfl (new_one _ _ _ _ (by simp)) (one_cell1 rfl) (by decide) (by decide) (by decide) ?_))
  intro g cap w1 hown hg hat
  have b1 : Blk w1 w.heap.size 3 [.int .i64 0] := (((Blk.new w _ [.int .i64 0]).alloc _).alloc _).grown hg (by simp [Value.ownBlock] <;> omega)
  have b2 : Blk w1 (w.heap.size + 1) 72 [.slice none 0 0] := ((Blk.new' _ _ [.slice none 0 0] _ (by simp)).alloc _).grown hg (by simp [Value.ownBlock] <;> omega)
  have hB1 : Below w.heap.size w w1 := ((((Below.refl _ _).alloc (Nat.le_refl _) _).alloc (by simp) _).alloc (by simp; omega) _).grown hg (by simp; omega) (by simp [Value.ownBlock] <;> omega)
  have hgg : g = w.heap.size + 1 + 1 + 1 := by simpa [Value.ownBlock] using hat
  subst hgg
  have hd0 : w1.cell? ⟨b, off, none⟩ = some (.int .i64 1) := (hB1.cell hb).trans hc0
  have v1 := b1.cell_ 0 rfl
  have v2 := b2.cell_ 0 rfl
  have f1 := b1.frozen 0
  have f2 := b2.frozen 0
  clear hat hg
  go_wp2_with fail
  refine (told_one _).mono ?_
  rintro e w' ⟨rfl, rfl⟩
  go_wp2_with fail
  refine (status_any _ _).mono ?_
  rintro e w' ⟨rfl, rfl⟩
  rw [show statusOf 3 = 1 from rfl]
  go_wp2_with fail
  refine (next_goes _ _ _ k12 s0 _ _ _ (by decide) ?_ (by decide) (by decide) (by decide)).mono ?_
  · exact h.below ((hB1.setCell (by simp) _).setCell (by simp) _)
  rintro e w' ⟨rfl, rfl⟩
  go_wp2_with fail
  obtain ⟨W, hW⟩ : ∃ W, W = (w1.setCell ⟨w.heap.size + 1, 0, none⟩ (.slice (some ⟨w.heap.size + 1 + 1 + 1, 0, none⟩) 1 cap)).setCell ⟨w.heap.size, 0, none⟩ (.int .i64 3) := ⟨_, rfl⟩
  rw [← hW]
  have hB2 : Below w.heap.size w W := hW ▸ ((hB1.setCell (by simp) _).setCell (by simp) _)
  have c1 : Blk W w.heap.size 3 [.int .i64 3] := hW ▸ (b1.far (by simp) _).set 0 _
  have c2 : Blk W (w.heap.size + 1) 72 [.slice (some ⟨w.heap.size + 1 + 1 + 1, 0, none⟩) 1 cap] := hW ▸ (b2.set 0 _).far (by simp) _
  have hown2 : W.ownsRow 0 3 1 (.slice (some ⟨w.heap.size + 1 + 1 + 1, 0, none⟩) 1 cap) 1 [.int .i64 0] := by
    subst hW
    exact ownsRow_setCell_other (ownsRow_setCell_other hown (by simp [Value.ownBlock] <;> omega) _) (by simp [Value.ownBlock] <;> omega) _
  have hlt : w.heap.size + 1 + 1 + 1 < W.heap.size := (hown2.lt _ rfl).2
  clear hW hown v1 v2 f1 f2 hd0 hB1 b1 b2
  clear w1
  have v1 := c1.cell_ 0 rfl
  have v2 := c2.cell_ 0 rfl
  have f1 := c1.frozen 0
  have f2 := c2.frozen 0
  rw [rounds_succ]
  go_wp2_with (at_builtin; go_must (refine wpList_app _ rfl (.tmp 17) (.tmp 19) 72 rfl 3 (.int .i64 0) 1 8 Try.underlying72 intInfo rfl (by decide) _ 1 [.int .i64 0] rfl (hown2.alloc _) ⟨W.heap.size, 0, none⟩ 1 1 [.int .i64 1] rfl rfl (new_one _ _ _ _ rfl) (one_cell1 rfl) (by decide) (by decide) (by decide) ?_))
  intro g cap2 w1 hown hg hat
  have b1 : Blk w1 w.heap.size 3 [.int .i64 3] := (c1.alloc _).grown hg (by simp [Value.ownBlock] <;> omega)
  have b2 : Blk w1 (w.heap.size + 1) 72 [.slice (some ⟨w.heap.size + 1 + 1 + 1, 0, none⟩) 1 cap] := (c2.alloc _).grown hg (by simp [Value.ownBlock] <;> omega)
  have hB1 : Below w.heap.size w w1 := (hB2.alloc hB2.size _).grown hg (by have := hB2.size; simp; omega) (by simp [Value.ownBlock]; omega)
  have hd0 : w1.cell? ⟨b, off + 5, none⟩ = some (.int .i64 2) := (hB1.cell hb).trans hc1
  have hgn : g ≠ w.heap.size ∧ g ≠ w.heap.size + 1 := by
    rcases hat with e | e
    · simp [Value.ownBlock] at e; omega
    · omega
  clear v1 v2 f1 f2 c1 c2 hown2 hg hat hB2
  have v1 := b1.cell_ 0 rfl
  have v2 := b2.cell_ 0 rfl
  have f1 := b1.frozen 0
  have f2 := b2.frozen 0
  go_wp2_with fail
  refine (told_two _).mono ?_
  rintro e w' ⟨rfl, rfl⟩
  go_wp2_with fail
  refine (status_any _ _).mono ?_
  rintro e w' ⟨rfl, rfl⟩
  rw [show statusOf 1 = 0 from rfl]
  go_wp2_with fail
  refine (next_out _ _ _ _ _ _ (by decide) (by decide)).mono ?_
  rintro e w' ⟨rfl, rfl⟩
  go_wp2_with fail
  obtain ⟨W', hW⟩ : ∃ W', W' = (w1.setCell ⟨w.heap.size + 1, 0, none⟩ (.slice (some ⟨g, 0, none⟩) 2 cap2)).setCell ⟨w.heap.size, 0, none⟩ (.int .i64 1) := ⟨_, rfl⟩
  rw [← hW]
  have hB2 : Below w.heap.size w W' := hW ▸ ((hB1.setCell (by simp) _).setCell (by simp) _)
  have c1 : Blk W' w.heap.size 3 [.int .i64 1] := hW ▸ (b1.far (by simp) _).set 0 _
  have c2 : Blk W' (w.heap.size + 1) 72 [.slice (some ⟨g, 0, none⟩) 2 cap2] := hW ▸ (b2.set 0 _).far (by simp) _
  have hown2 : W'.ownsRow 0 3 1 (.slice (some ⟨g, 0, none⟩) 2 cap2) 2 [.int .i64 0, .int .i64 1] := by
    subst hW
    exact ownsRow_setCell_other (ownsRow_setCell_other hown (by simp [Value.ownBlock]; omega) _) (by simp [Value.ownBlock]; omega) _
  clear hW hown v1 v2 f1 f2 hd0 hB1 b1 b2
  clear w1
  have v1 := c1.cell_ 0 rfl
  have v2 := c2.cell_ 0 rfl
  have f1 := c1.frozen 0
  have f2 := c2.frozen 0
  rw [rounds_succ]
  go_wp2_with fail
  go_region
  go_wp2_with fail
  refine leaves_cons (f := 69) (args := #[.pointer (some ⟨w.heap.size, 0, none⟩), .pointer (some ⟨w.heap.size + 1, 0, none⟩)]) (by simp) (by simp [go_sem]) ?_
  refine (idle_through _ _ _).mono ?_
  rintro e u' w'' ⟨rfl, rfl, rfl⟩
  simp [Leaves, settle, results, Try.results49, go_sem, v1, v2]
  have hown3 := ownsRow_setCell_other (ownsRow_setCell_other hown2 (a := ⟨w.heap.size, 0, none⟩) (by simp [Value.ownBlock]; omega) (.int .i64 1)) (a := ⟨w.heap.size + 1, 0, none⟩) (by simp [Value.ownBlock]; omega) (.slice (some ⟨g, 0, none⟩) 2 cap2)
  exact ⟨g, cap2, rfl, hown3.cellAt 0 (by decide), hown3.cellAt 1 (by decide), ((hB2.setCell (by simp) _).setCell (by simp) _).drew⟩

set_option maxRecDepth 100000 in
theorem works33 (w : World) : Calls Try.prog 13 #[] w (RetB (.bool true) w) := by
  go_enter Try.func13, Try.ntmps13
  go_wp2_with fail
  refine (through_works _ _ _ _ ?_ ?_ ?_ ?_).mono ?_
  · simp
  · intro _
    refine ⟨_, _, rfl, by simp, fun i hi => ?_⟩
    have : i = 0 ∨ i = 1 := by omega
    rcases this with rfl | rfl
    · refine ⟨by simp [go_sem, k12], fun j hj => ?_⟩
      have : j = 0 ∨ j = 1 ∨ j = 2 ∨ j = 3 := by omega
      rcases this with rfl | rfl | rfl | rfl <;> simp [go_sem, s0]
    · refine ⟨by simp [go_sem, k12], fun j hj => ?_⟩
      have : j = 0 ∨ j = 1 ∨ j = 2 ∨ j = 3 := by omega
      rcases this with rfl | rfl | rfl | rfl <;> simp [go_sem, s0]
  · simp [go_sem]
  · simp [go_sem]
  rintro e w1 ⟨g, c, rfl, h0, h1, hb⟩
  go_wp2_with (go_at_call 18; refine (code_any _ _).mono ?_; rintro e w' ⟨rfl, rfl⟩)
  go_ret
  exact RetB.mk rfl (below_then ((Below.refl _ _).alloc (Nat.le_refl _) _) (by simp) hb)
end Go.Proofs.Ytokcfkfkpcgliaa
