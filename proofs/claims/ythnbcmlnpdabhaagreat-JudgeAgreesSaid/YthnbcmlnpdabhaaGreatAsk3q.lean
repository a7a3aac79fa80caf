/-
  The reference's layer 24: Message. ask.Build.
-/
import Derived.Test.YthnbcmlnpdabhaaGreatHBq
namespace Go.Proofs.YthnbcmlnpdabhaaGreat
open _root_.Go.Proofs.Tryz
open Go.RowKit
set_option maxRecDepth 100000
set_option linter.unusedVariables false
set_option linter.unusedSimpArgs false
set_option maxHeartbeats 1000000 in
theorem wO (A : Option Addr) (c : Nat) (q : Qn) (id : Int) (edns : Bool) (w : World) (hA : rQ w A c q.name) (hn : q.name.length <= 100000) :
  Calls prog 74 #[.agg #[.slice A q.name.length c, .int .i64 q.ty, .int .i64 q.cl], .int .i64 id, .bool edns] w (nM (.tuple #[.string (bs (oT (pf q id edns) false).1), .int .i64 (oT (pf q id edns) false).2]) w) := by
 have kb : Below w.heap.size w (w.alloc (.cells #[.slice A q.name.length c, .int .i64 q.ty, .int .i64 q.cl] 28)) := eC;have MS := Hh (AK A c q id edns _ (hA.below kb) hn);have h1 : (pf q id edns).qs.length <= 700 := bh;have h2 : (pf q id edns).y7.length <= 400 := by cases edns <;> simp [pf, oh.y7]
 clear hA hn;generalize pf q id edns = M at *;generalize q.ty = ty at *;generalize q.cl = cl at *;generalize q.name.length = nl at *;go_enter func74, ntmps74;go_wp2_with fail;refine MS.out.mono ?_;rintro _ w1 ⟨cs, Aq, Aa, Au, Ae, cq, ca, cu, ce, rfl, b1, hM⟩;have EN := Hh (Ht cs M false Aq Aa Au Ae cq ca cu ce w1 (hM w1 (yT.refl _ _)) h1 h2);have b2 := nc kb kb.size b1;generalize (oT M false).1 = o1 at *;generalize (oT M false).2 = o2 at *;clear hM b1 MS;go_wp2_with fail;refine EN.out.mono ?_;rintro _ w2 ⟨rfl, b3⟩;have b4 := nc b2 b2.size b3;clear EN;go_wp2_with fail;go_ret2;exact nM.mk rfl b4
end Go.Proofs.YthnbcmlnpdabhaaGreat
