/-
  Layer 24, the laws' own: AskBuilds.
-/
import Derived.Test.YthnbcmlnpdabhaaGreatLaw24q
import Derived.Test.YthnbcmlnpdabhaaGreatHPq
namespace Go.Proofs.YthnbcmlnpdabhaaGreat
open _root_.Go.Proofs.Tryz
open Go.RowKit
set_option maxRecDepth 100000
set_option linter.unusedVariables false
set_option linter.unusedSimpArgs false
set_option maxHeartbeats 4000000 in
theorem refAsk_no (A : Option Addr) (c : Nat) (q : Qn) (id : Int) (w : World) (hA : NmR w A c q.name) :
  Calls prog 125 #[.agg #[.slice A q.name.length c, .int .i64 q.ty, .int .i64 q.cl], .int .i64 id, .bool false] w (RefAsk (askM q id false) w) := by
 have AI := Hh (fun (w' : World) (b : Below w.heap.size w w') (gq : Nat) hq => @askIs w' 0 gq 0 A c q id false hq (fun h => by cases h) (hA.below b))
 clear hA
 generalize askM q id false = M at *
 generalize q.ty = ty at *
 generalize q.cl = cl at *
 generalize q.name.length = nl at *
 have B6 := Blk.new' (w.alloc (.cells #[.slice A nl c, .int .i64 ty, .int .i64 cl] 28)) 50 msgZ (w.heap.size + 1) (by simp)
 go_enter func125, ntmps125
 go_wp2_with (refine at_op (.store 50 (.tmp 6) (.tmp 20)) rfl ?_; go_must (refine wpList_stB rfl _ _ _ rfl (w.heap.size + 1) 0 rfl (msgC (askH id) (.slice (some ⟨w.heap.size + 1 + 1, 0, none⟩) 1 1) nilS nilS nilS) rfl ((B6.alloc _).alloc _) (by rw [msgC_len, msgZ_len]; omega) (by rw [msgC_len]; exact msgInfo) (msgC_one _ rfl rfl rfl rfl) ?_))
 intro w5 B5 g5 s5
 have kk : ∀ o1 o2 o3 o4, Below w.heap.size w ((((w.alloc o1).alloc o2).alloc o3).alloc o4) := fun o1 o2 o3 o4 => ((((Below.refl _ _).alloc (Nat.le_refl _) _).alloc (by simp) _).alloc (by simp; omega) _).alloc (by simp; omega) _
 have b5 := below_grown (kk _ _ _ _) g5 (by simp; omega) (by omega)
 have Bq : Blk w5 (w.heap.size + 1 + 1) 28 [.slice A nl c, .int .i64 ty, .int .i64 cl] := Blk.grown ((Blk.new' _ 28 [.slice A nl c, .int .i64 ty, .int .i64 cl] _ (by simp)).alloc _) g5 (by simp)
 clear kk g5 B6
 go_wp2_with fail
 refine ret_cell rfl (w.heap.size + 1) rfl B5 _ underlying50 rfl msgInfo rfl ?_
 exact ⟨_, _, _, _, _, _, _, _, _, rfl, b5, AI.out w5 b5 _ Bq⟩
theorem refAsk_all (A : Option Addr) (c : Nat) (q : Qn) (id : Int) (edns : Bool) (w : World) (hA : NmR w A c q.name) :
  Calls prog 125 #[.agg #[.slice A q.name.length c, .int .i64 q.ty, .int .i64 q.cl], .int .i64 id, .bool edns] w (RefAsk (askM q id edns) w) := by
 cases edns
 ·
  exact refAsk_no A c q id w hA
 ·
  exact refAsk_any A c q id w hA
theorem refBuild_any (A : Option Addr) (c : Nat) (q : Qn) (id : Int) (edns : Bool) (w : World) (hA : NmR w A c q.name) :
  Calls prog 82 #[.agg #[.slice A q.name.length c, .int .i64 q.ty, .int .i64 q.cl], .int .i64 id, .bool edns] w (RetB (.tuple #[.string (bs (encM (askM q id edns) false).1), .int .i64 (encM (askM q id edns) false).2]) w) := by
 have kb : Below w.heap.size w (w.alloc (.cells #[.slice A q.name.length c, .int .i64 q.ty, .int .i64 q.cl] 28)) := (Below.refl _ _).alloc (Nat.le_refl _) _
 have MS := Hh (refAsk_all A c q id edns _ (hA.below kb))
 have h1 : (askM q id edns).qs.length ≤ 100 := by simp [askM]
 have h2 : (askM q id edns).rrs.length ≤ 200 := by cases edns <;> simp [askM, Msg.rrs]
 clear hA
 generalize askM q id edns = M at *
 generalize q.ty = ty at *
 generalize q.cl = cl at *
 generalize q.name.length = nl at *
 go_enter func82, ntmps82
 go_wp2_with fail
 refine MS.out.mono ?_
 rintro _ w1 ⟨cs, Aq, Aa, Au, Ae, cq, ca, cu, ce, rfl, b1, hM⟩
 have EN := Hh (refmencode_any cs M false Aq Aa Au Ae cq ca cu ce w1 hM h1 h2)
 have b2 := below_then kb kb.size b1
 generalize (encM M false).1 = o1 at *
 generalize (encM M false).2 = o2 at *
 clear hM b1 MS
 go_wp2_with fail
 refine EN.out.mono ?_
 rintro _ w2 ⟨rfl, b3⟩
 have b4 := below_then b2 b2.size b3
 clear EN
 go_wp2_with fail
 go_ret2
 exact RetB.mk rfl b4
theorem ask_plain (q : Qn) (id : Int) (edns : Bool) : (encM (askM q id edns) false).2 ≠ 0 ∨ ((encM (askM q id edns) false).2 = 0 ∧ (encM (askM q id edns) false).1.length ≤ 65535 ∧ decM (encM (askM q id edns) false).1 = .ok (askM q id edns)) := by
 have hw : ∀ r ∈ (askM q id edns).rrs, r.wf := by
  intro r hr
  cases edns with
  | false => simp [askM, Msg.rrs] at hr
  | true =>
   have : r = optR := by simpa [askM, Msg.rrs] using hr
   subst this
   exact ⟨rfl, rfl⟩
 rcases back_plain _ hw with ⟨h1, h2, h3, h4, h5, h6⟩ | ⟨h1, _⟩ | ⟨h1, _⟩
 ·
  exact .inr ⟨h1, h4, h5⟩
 ·
  exact .inl h1
 ·
  exact .inl h1
end Go.Proofs.YthnbcmlnpdabhaaGreat
