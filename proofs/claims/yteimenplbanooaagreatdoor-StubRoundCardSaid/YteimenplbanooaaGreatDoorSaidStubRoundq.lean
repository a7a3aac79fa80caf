/-
  StubRound: for every input the law returns true, and each argument reads afterwards as it read before. Its one condition, which the card ties to the program's text: the four listed package-level variables (three tables of Go's library, and the program's own twelve bytes ahead of mapped addresses) read as they are laid.
-/
import Derived.Test.YteimenplbanooaaGreatDoorRBQq
import Derived.Test.YteimenplbanooaaGreatDoorTie
import Derived.Test.YteimenplbanooaaGreatDoorCards
import Derived.Lay
import Derived.Lib.LaidU8
import Derived.SevenTiedAt
import Derived.Shelf.Vars
namespace Go.Proofs.YteimenplbanooaaGreatDoor
open _root_.Go.Proofs.Tryz
open Go.ChangeShapes Go.WideShapes Go.ChangeAt Go.RowKit
open Go.ChangeMaps (open_string shut_string)
set_option linter.unusedVariables false
theorem tab_of_reads43 {P : Program} {W : World} {n : String} {k : IntKind} {zs : List Int} {g : Nat} {t e : TypeId} {m : Nat} (hg : P.globalNamed n = some g) (hty : (P.globals[g]?).map (·.type) = some t) (ht : P.underlying t = some (.array m e)) (he : P.underlying e = some (.int k)) (hce : P.cellsOf e = 1) (hct : P.cellsOf t = m) (h : Lib.VarReads P W n (Lib.tabData k zs)) : Lib.TabIs P W n k zs := by
 obtain ⟨g', t', cs, fuel, p, hg', ht', hvar, hd⟩ := h
 obtain rfl := Option.some.inj (hg.symm.trans hg')
 obtain rfl := Option.some.inj (hty.symm.trans ht')
 have hc := Lib.cells_of_tab ht he hce hct hd
 unfold Lib.TabIs
 rw [hvar, ← hc]
def deB43 : List Int := [0, 1, 56, 2, 57, 49, 28, 3, 61, 58, 42, 50, 38, 29, 17, 4, 62, 47, 59, 36, 45, 43, 51, 22, 53, 39, 33, 30, 24, 18, 12, 5, 63, 55, 48, 27, 60, 41, 37, 16, 46, 35, 44, 21, 52, 32, 23, 11, 54, 26, 40, 15, 34, 20, 31, 10, 25, 14, 19, 9, 13, 8, 7, 6]
theorem deB43_eq : (Rows.laid_math_bits_deBruijn64tab : DataW Unit) = Lib.tabData .u8 deB43 := by kernel_rfl
theorem pow43_eq : (Rows.laid_internal_strconv_uint64pow10 : DataW Unit) = Lib.tabData .u64 Lib.pow10Tab := by kernel_rfl
theorem ah43_eq : (Rows.laid_wayfinder_addr_ahead : DataW Unit) = Lib.tabData .u8 ahB := by kernel_rfl
theorem gPow43 : prog.globalNamed "internal/strconv.uint64pow10" = some 2 := by kernel_rfl
theorem gDeb43 : prog.globalNamed "math/bits.deBruijn64tab" = some 4 := by kernel_rfl
theorem gAh43 : prog.globalNamed "wayfinder/addr.ahead" = some 0 := by kernel_rfl
theorem tb_of_laid43 {W : World} (hL : laidMet prog Rows.stubRoundRow.laid W) : Tb W := by
 have h1 : ("internal/strconv.uint64pow10", (Rows.laid_internal_strconv_uint64pow10 : DataW Unit)) ∈ Rows.stubRoundRow.laid := .tail _ (.tail _ (.head _))
 have h2 : ("math/bits.deBruijn64tab", (Rows.laid_math_bits_deBruijn64tab : DataW Unit)) ∈ Rows.stubRoundRow.laid := .tail _ (.head _)
 refine ⟨tab_of_reads43 gPow43 (t := 395) (by kernel_rfl) underlying395 underlying266 (by kernel_rfl) (by kernel_rfl) (pow43_eq ▸ Lib.laidMet.reads hL h1), ?_⟩
 have := Lib.TabIs.cell (tab_of_reads43 gDeb43 (t := 444) (by kernel_rfl) underlying444 underlying5 (by kernel_rfl) (by kernel_rfl) (deB43_eq ▸ Lib.laidMet.reads hL h2)) gDeb43 15 (by decide)
 exact this
theorem ah_of_laid43 {W : World} (hL : laidMet prog Rows.stubRoundRow.laid W) : Ah W := by
 have h1 : ("wayfinder/addr.ahead", (Rows.laid_wayfinder_addr_ahead : DataW Unit)) ∈ Rows.stubRoundRow.laid := .tail _ (.tail _ (.tail _ (.head _)))
 have T := tab_of_reads43 gAh43 (t := 212) (by kernel_rfl) underlying212 underlying5 (by kernel_rfl) (by kernel_rfl) (ah43_eq ▸ Lib.laidMet.reads hL h1)
 intro j v hv
 rw [List.getElem?_map] at hv
 obtain ⟨z, hz, rfl⟩ := Option.map_eq_some_iff.1 hv
 obtain ⟨hj, e⟩ := List.getElem?_eq_some_iff.1 hz
 have := Lib.TabIs.cell T gAh43 j hj
 rw [Nat.zero_add, this]
 simp [List.getD, hz]
theorem mx_of_shape43 {W : World} (h : W.ShapedOpen prog) : Mx W :=
 cell_of_shapedOpen_int (g := 1) (t := 3) (zero := #[.int .i64 0]) (k := .i64) h (of_decide_eq_true (by kernel_rfl)) (by kernel_rfl) rfl (by kernel_rfl) (by kernel_rfl) underlying3
set_option maxRecDepth 100000 in
theorem stubRound_lifted (os : Os) (started : os.Started) (H : Type) (enc : TypeId × Value → H) :
  ReturnsInHanded {} Tryz.checked os 3 .any (fun w args => (Rows.stubRoundSpec.pre enc prog f3 [] false w args ∧ laidMetH prog Rows.stubRoundRow.laid w) ∧ sizedMet enc prog f3 (OpenSpec.ofChange Rows.stubRoundSpec) false w args) (Rows.stubRoundSpec.post enc prog f3 false true false false) := by
 refine returnsInHanded_of_calls (C := Tryz.checked) own started (by kernel_rfl)
  (ChangeSpec.witness_shaped (enc := enc) (C := Tryz.checked) (os := os) (X := fun w _ => laidMetH prog Rows.stubRoundRow.laid w) false (World.laidAll prog os Rows.stubRoundRow.laid) #[.agg #[.int .i64 0, .int .u8 0, .int .u8 0, .int .u8 0, .int .u8 0, .int .u8 0, .int .u8 0, .int .u8 0, .int .u8 0, .int .u8 0, .int .u8 0, .int .u8 0, .int .u8 0, .int .u8 0, .int .u8 0, .int .u8 0, .int .u8 0, .int .i64 0], .int .u16 0] 8 (World.laidAll_os _ _ _)
   (World.shaped_of_ZipB (by kernel_rfl) (by kernel_rfl)) (by kernel_rfl) (by kernel_rfl) (by kernel_rfl)
   (by rw [MakeChecks.laidMetH_plain _ _ _ (by kernel_rfl)]; exact laidMet_laidAll _ (by kernel_rfl) (by kernel_rfl))) ?_
 intro w tape i _ hsh _ hok hpre _
 obtain ⟨_, _, _, fn', hfn', _, _, _, _, hval0⟩ := hok
 have e : fn' = f3 := Option.some.inj (hfn'.symm.trans func3)
 subst e
 obtain ⟨⟨⟨ds, gs, before, hw, hc⟩, hx⟩, hz⟩ := hpre
 have hW := DataW.Whole.of_heap (w' := w.forCall tape i) (by rfl) hw
 have hL0 : laidMetH prog Rows.stubRoundRow.laid (w.forCall tape i) := hx.of_heap (by rfl)
 have hsz0 := hz.weights hw
 clear hw hc hx hz
 have MxW : Mx (w.forCall tape i) := mx_of_shape43 hsh
 generalize w.heap.size = base at *
 generalize hWW : w.forCall tape i = W at *
 generalize i.args = args at *
 clear hWW hsh
 rw [MakeChecks.laidMetH_plain _ _ _ (by kernel_rfl)] at hL0
 have TbW := tb_of_laid43 hL0
 have AhW := ah_of_laid43 hL0
 clear hL0
 have hval : ∀ (j : Nat) t v, f3.params[j]? = some t → args[j]? = some v → Value.okWide prog W .any base t v := hval0
 have hW' := hW
 obtain ⟨p, q, hA0, hV, rfl, hfz, hnd⟩ := hW
 have hA : DataW.TrodAll enc prog W 0 (fun _ => true) true f3.params.toList args.toList ds p := hA0
 rw [Tryz.params3] at hA hval
 obtain ⟨v0, vs0, d0, ds0, p0, q0, hargs, rfl, rfl, h0, r0⟩ := trodAll_cons hA
 obtain ⟨v1, vs1, d1, ds1, p1, q1, rfl, rfl, rfl, h1, r1⟩ := trodAll_cons r0
 obtain ⟨rfl, rfl, rfl⟩ := trodAll_nil r1
 obtain rfl : args = #[v0, v1] := by cases args; simp_all
 obtain ⟨rfl, rfl⟩ := trodVars_none hV
 have lg0 : Light prog 24 d0 := light_each (P := prog) (i := 0) hsz0 (by rfl) (by rfl)
 have lg1 : Light prog 25 d1 := light_each (P := prog) (i := 1) hsz0 (by rfl) (by rfl)
 clear hsz0
 have k0 := h0
 have lt0 : ∀ x ∈ p0, x.block < W.heap.size := by obtain ⟨m, hm⟩ := k0; exact DataW.trod_lt m _ _ _ hm
 obtain ⟨cs0, e0, _⟩ := okWide_struct underlying24 (hval 0 24 v0 rfl rfl)
 subst e0
 obtain ⟨a, h16, hcT, hzo⟩ := seen_adr43 (SeenW.of h0 lg0)
 have ec0 : cs0 = a.cells.toArray := Array.toList_inj.1 (by simpa [Value.cells] using hcT)
 subst ec0
 have k1 := h1
 have lt1 : ∀ x ∈ p1, x.block < W.heap.size := by obtain ⟨m, hm⟩ := k1; exact DataW.trod_lt m _ _ _ hm
 obtain ⟨n1, e1⟩ := okWide_int underlying25 (hval 1 25 v1 rfl rfl)
 subst e1
 obtain ⟨pn, hcn, hpn⟩ := seen_u16 (SeenW.of h1 lg1)
 simp [Value.cells] at hcn
 subst hcn
 clear hA0 hval0
 refine (stubRound_any a h16 hzo.2 pn hpn W TbW MxW AhW).mono fun e W' ⟨he, bel⟩ => ?_
 subst he
 exact ChangeSpec.post_blind ⟨_, _, _, [], _, [], hW', trodAll_mk1 (shut_bool underlying4 _), (trodAll_cons_mk (Below.trod laidOut (by kernel_rfl) (of_decide_eq_true (by kernel_rfl)) k0 bel lt0) (trodAll_cons_mk (Below.trod laidOut (by kernel_rfl) (of_decide_eq_true (by kernel_rfl)) k1 bel lt1) trodAll_mk0)), rfl, bel.frame _, fun h => by cases h⟩
theorem stubRound_n : Tryz.pinned.checked.prog.funcNamed Rows.stubRoundRow.func = some 3 := by kernel_rfl
theorem stubRound_c2 : laidOutB Tryz.pinned.checked.prog = true := by kernel_rfl
theorem stubRound_c3 : mapsRowed Tryz.pinned.checked.prog = true := by kernel_rfl
theorem stubRound_c6 : (Rows.stubRoundRow.inPlace == Tryz.pinned.checked.prog.inPlace 3) = true := by kernel_rfl
theorem stubRound_c7 : (Rows.stubRoundRow.unfollowed == Tryz.pinned.checked.prog.unfollowed 3) = true := by kernel_rfl
theorem stubRound_c8 : (Rows.stubRoundRow.recurses == Tryz.pinned.checked.prog.recurses 3) = true := by kernel_rfl
theorem stubRound_c9 : (Rows.stubRoundRow.named == Tryz.pinned.checked.prog.varsNamed 3) = true := by kernel_rfl
theorem stubRound_c : joinedFacts Tryz.pinned.checked.prog 3 f3 Rows.stubRoundSpec Rows.stubRoundRow = true := by unfold joinedFacts; rw [stubRound_c2, stubRound_c3, stubRound_c6, stubRound_c7, stubRound_c8, stubRound_c9]; kernel_rfl
theorem stubRound_i : f3.isInstance Tryz.pinned.checked.prog Rows.stubRoundRow.origin Rows.stubRoundRow.targs := of_decide_eq_true (by kernel_rfl)
theorem stubRound_w : f3.isWrapper Tryz.pinned.checked.prog Rows.stubRoundRow.wrapper Rows.stubRoundRow.mainSum := by unfold Func.isWrapper; first | (rw [if_pos (by decide +kernel)]; kernel_rfl) | (rw [if_neg (by decide +kernel)]; exact ⟨rfl, rfl⟩)
theorem stubRound_over : Rows.StubRoundSaid :=
 OpenClaim.holds_of_wide 3 f3 rfl rfl rfl rfl rfl rfl rfl ⟨rfl, rfl, rfl, rfl, rfl⟩ rfl rfl rfl rfl rfl stubRound_n func3 stubRound_c stubRound_i stubRound_w (fun os started H enc _ => stubRound_lifted os started H enc)
theorem stubRound_k1 : Rows.stubRoundRow.wfByText (OpenSpec.ofChange Rows.stubRoundSpec) = true := by kernel_rfl
theorem stubRound_k2 : Tryz.pinned.checked.prog.mainIs = some (true, "39fe92f4ce70f30466f2383477980e1e3a9a1af633f9a3e34b406de99e8f89fd".toList) := by kernel_rfl
theorem stubRound_k3 : true = Tryz.pinned.checked.prog.looks [] := by kernel_rfl
theorem stubRound_k4 : false = Rows.stubRoundRow.goesBy Tryz.pinned.checked.prog := by kernel_rfl
theorem stubRound_k5 : ([24, 25].all fun u => !prog.wantsStandIn u) = true := by kernel_rfl
theorem stubRound_proved : Rows.StubRoundCardSaid :=
 Claim7.holds_tied_plain_at .later [] [.data, .data, .data, .data] true (true, "39fe92f4ce70f30466f2383477980e1e3a9a1af633f9a3e34b406de99e8f89fd") true
  stubRound_over (fun _ h => by cases h) stubRound_k1 (fun _ h => by cases h) stubRound_row_tie rfl ⟨rfl, rfl⟩ stubRound_k2 rfl
  (fun f fn hf hfn => by
   obtain rfl : f = 3 := Option.some.inj (stubRound_n.symm.trans hf) |>.symm
   obtain rfl : fn = f3 := (Option.some.inj (func3.symm.trans hfn)).symm
   exact ⟨stubRound_k3, fun j t ht => by
    rw [Tryz.params3] at ht
    have hm : t ∈ [24, 25] := by simpa using Array.mem_of_getElem? ht
    exact (show prog.wantsStandIn t = false by simpa using List.all_eq_true.1 stubRound_k5 t hm)⟩)
  stubRound_k4
#print axioms stubRound_proved
end Go.Proofs.YteimenplbanooaaGreatDoor
