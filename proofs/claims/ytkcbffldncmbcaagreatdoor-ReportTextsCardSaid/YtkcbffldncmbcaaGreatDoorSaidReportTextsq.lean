/-
  ReportTexts: for every input the law returns true, and each argument reads afterwards as it read before. Its one condition, which the card ties to the program's text: the five listed package-level variables of Go's library read as they are laid.
-/
import Derived.Test.YtkcbffldncmbcaaGreatDoorOpenRq
import Derived.Test.YtkcbffldncmbcaaGreatDoorTie
import Derived.Test.YtkcbffldncmbcaaGreatDoorCards
import Derived.Lay
import Derived.Lib.LaidU8
import Derived.SevenTiedAt
namespace Go.Proofs.YtkcbffldncmbcaaGreatDoor
open _root_.Go.Proofs.Tryz
open Go.ChangeShapes Go.WideShapes Go.ChangeAt Go.RowKit
open Go.ChangeMaps (open_string shut_string)
set_option linter.unusedVariables false
theorem tab_of_reads {P : Program} {W : World} {n : String} {k : IntKind} {zs : List Int} {g : Nat} {t e : TypeId} {m : Nat} (hg : P.globalNamed n = some g) (hty : (P.globals[g]?).map (·.type) = some t) (ht : P.underlying t = some (.array m e)) (he : P.underlying e = some (.int k)) (hce : P.cellsOf e = 1) (hct : P.cellsOf t = m) (h : Lib.VarReads P W n (Lib.tabData k zs)) : Lib.TabIs P W n k zs := by
 obtain ⟨g', t', cs, fuel, p, hg', ht', hvar, hd⟩ := h
 obtain rfl := Option.some.inj (hg.symm.trans hg')
 obtain rfl := Option.some.inj (hty.symm.trans ht')
 have hc := Lib.cells_of_tab ht he hce hct hd
 unfold Lib.TabIs
 rw [hvar, ← hc]
def deB : List Int := [0, 1, 56, 2, 57, 49, 28, 3, 61, 58, 42, 50, 38, 29, 17, 4, 62, 47, 59, 36, 45, 43, 51, 22, 53, 39, 33, 30, 24, 18, 12, 5, 63, 55, 48, 27, 60, 41, 37, 16, 46, 35, 44, 21, 52, 32, 23, 11, 54, 26, 40, 15, 34, 20, 31, 10, 25, 14, 19, 9, 13, 8, 7, 6]
theorem deB_eq : (Rows.laid_math_bits_deBruijn64tab : DataW Unit) = Lib.tabData .u8 deB := by kernel_rfl
theorem pow_eq : (Rows.laid_internal_strconv_uint64pow10 : DataW Unit) = Lib.tabData .u64 Lib.pow10Tab := by kernel_rfl
theorem gPow : prog.globalNamed "internal/strconv.uint64pow10" = some 3 := by kernel_rfl
theorem gDeb : prog.globalNamed "math/bits.deBruijn64tab" = some 5 := by kernel_rfl
theorem tb_of_laid {W : World} (hL : laidMet prog Rows.reportTextsRow.laid W) : Tb W := by
 have h1 : ("internal/strconv.uint64pow10", (Rows.laid_internal_strconv_uint64pow10 : DataW Unit)) ∈ Rows.reportTextsRow.laid := .tail _ (.tail _ (.head _))
 have h2 : ("math/bits.deBruijn64tab", (Rows.laid_math_bits_deBruijn64tab : DataW Unit)) ∈ Rows.reportTextsRow.laid := .tail _ (.head _)
 refine ⟨tab_of_reads gPow (t := 148) (by kernel_rfl) underlying148 underlying85 (by kernel_rfl) (by kernel_rfl) (pow_eq ▸ Lib.laidMet.reads hL h1), ?_⟩
 have := Lib.TabIs.cell (tab_of_reads gDeb (t := 162) (by kernel_rfl) underlying162 underlying5 (by kernel_rfl) (by kernel_rfl) (deB_eq ▸ Lib.laidMet.reads hL h2)) gDeb 15 (by decide)
 exact this
set_option maxRecDepth 100000 in
theorem reportTexts_lifted (os : Os) (started : os.Started) (H : Type) (enc : TypeId × Value → H) :
  ReturnsInHanded {} Tryz.checked os 3 .any (fun w args => (Rows.reportTextsSpec.pre enc prog f3 [] false w args ∧ laidMetH prog Rows.reportTextsRow.laid w) ∧ sizedMet enc prog f3 (OpenSpec.ofChange Rows.reportTextsSpec) false w args) (Rows.reportTextsSpec.post enc prog f3 false true false false) := by
 refine returnsInHanded_of_change_and (C := Tryz.checked) (X := fun w _ => laidMetH prog Rows.reportTextsRow.laid w) (fun _ _ _ hh h => h.of_heap hh) own started (by kernel_rfl) func3
  (ChangeSpec.witness_shaped (enc := enc) (C := Tryz.checked) (os := os) (X := fun w _ => laidMetH prog Rows.reportTextsRow.laid w) false (World.laidAll prog os Rows.reportTextsRow.laid) #[.agg #[.int .i64 0, .slice none 0 0, .string ⟨#[]⟩, .string ⟨#[]⟩, .string ⟨#[]⟩, .slice none 0 0], .slice none 0 0] 8 (World.laidAll_os _ _ _)
   (World.shaped_of_ZipB (by kernel_rfl) (by kernel_rfl)) (by kernel_rfl) (by kernel_rfl) (by kernel_rfl)
   (by rw [MakeChecks.laidMetH_plain _ _ _ (by kernel_rfl)]; exact laidMet_laidAll _ (by kernel_rfl) (by kernel_rfl))) ?_
 intro W base args ds gs before hval0 hW hcnd hsz0 hL _
 rw [MakeChecks.laidMetH_plain _ _ _ (by kernel_rfl)] at hL
 have TbW := tb_of_laid hL
 clear hL
 have hval : ∀ (j : Nat) t v, f3.params[j]? = some t → args[j]? = some v → Value.okWide prog W .any base t v := hval0
 have hW' := hW
 obtain ⟨p, q, hA0, hV, rfl, hfz, hnd⟩ := hW
 have hA : DataW.TrodAll enc prog W 0 (fun _ => true) true f3.params.toList args.toList ds p := hA0
 rw [Tryz.params3] at hA hval
 obtain ⟨v0, vs0, d0, ds0, p0, q0, hargs, rfl, rfl, h0, r0⟩ := trodAll_cons hA
 obtain ⟨v1, vs1, d1, ds1, p1, q1, rfl, rfl, rfl, h1, r1⟩ := trodAll_cons r0
 obtain ⟨rfl, rfl, rfl⟩ := trodAll_nil r1
 obtain rfl : args = #[v0, v1] := by cases args; simp_all
 obtain ⟨rfl, rfl⟩ := trodVars_none hV
 have lg0 : Light prog 25 d0 := light_each (P := prog) (i := 0) hsz0 (by rfl) (by rfl)
 have lg1 : Light prog 26 d1 := light_each (P := prog) (i := 1) hsz0 (by rfl) (by rfl)
 clear hsz0
 have k0 := h0
 have lt0 : ∀ x ∈ p0, x.block < W.heap.size := by obtain ⟨m, hm⟩ := k0; exact DataW.trod_lt m _ _ _ hm
 obtain ⟨cs0, e0, _⟩ := okWide_struct underlying25 (hval 0 25 v0 rfl rfl)
 subst e0
 obtain ⟨R, Ai, Ar, ci, cr, hcT, hcode, hI, hR, hRb, hs⟩ := seen_res (SeenW.of h0 lg0)
 have ec0 : cs0 = (rzC (.slice Ai R.infos.length ci) (.slice Ar R.recs.length cr) R).toArray := Array.toList_inj.1 (by simpa [Value.cells] using hcT)
 subst ec0
 have k1 := h1
 have lt1 : ∀ x ∈ p1, x.block < W.heap.size := by obtain ⟨m, hm⟩ := k1; exact DataW.trod_lt m _ _ _ hm
 obtain ⟨b1, n1, c1, e1⟩ := okWide_slice underlying26 (hval 1 26 v1 rfl rfl)
 subst e1
 obtain ⟨A1, q1, l1, hcs1, hT1, hl1⟩ := seen_outsB (SeenW.of h1 lg1)
 simp [Value.cells] at hcs1
 obtain ⟨rfl, rfl, rfl⟩ := hcs1
 clear hA0 hval0
 refine (reportTexts_any R Ai Ar _ ci cr _ l1 W TbW hcode hI hR hRb hs hT1).mono fun e W' ⟨he, bel⟩ => ?_
 subst he
 exact ⟨_, rfl, _, _, _, [], _, [], hW', trodAll_mk1 (shut_bool underlying4 _), (trodAll_cons_mk (Below.trod laidOut (by kernel_rfl) (of_decide_eq_true (by kernel_rfl)) k0 bel lt0) (trodAll_cons_mk (Below.trod laidOut (by kernel_rfl) (of_decide_eq_true (by kernel_rfl)) k1 bel lt1) trodAll_mk0)), rfl, bel.frame _, fun h => by cases h⟩
theorem reportTexts_n : Tryz.pinned.checked.prog.funcNamed Rows.reportTextsRow.func = some 3 := by kernel_rfl
theorem reportTexts_c : joinedFacts Tryz.pinned.checked.prog 3 f3 Rows.reportTextsSpec Rows.reportTextsRow = true := by kernel_rfl
theorem reportTexts_i : f3.isInstance Tryz.pinned.checked.prog Rows.reportTextsRow.origin Rows.reportTextsRow.targs := of_decide_eq_true (by kernel_rfl)
theorem reportTexts_w : f3.isWrapper Tryz.pinned.checked.prog Rows.reportTextsRow.wrapper Rows.reportTextsRow.mainSum := by unfold Func.isWrapper; first | (rw [if_pos (by decide +kernel)]; kernel_rfl) | (rw [if_neg (by decide +kernel)]; exact ⟨rfl, rfl⟩)
theorem reportTexts_over : Rows.ReportTextsSaid :=
 OpenClaim.holds_of_wide 3 f3 rfl rfl rfl rfl rfl rfl rfl ⟨rfl, rfl, rfl, rfl, rfl⟩ rfl rfl rfl rfl rfl reportTexts_n func3 reportTexts_c reportTexts_i reportTexts_w (fun os started H enc _ => reportTexts_lifted os started H enc)
theorem reportTexts_proved : Rows.ReportTextsCardSaid :=
 Claim7.holds_tied_plain_at .later [] [.data, .data, .data, .data, .pinned] true (true, "b85b48e0a8c8158acf24c3d11034185b5d4a6a32bac25681a046ee327a35fcb5") false
  reportTexts_over (fun _ h => by cases h) (by kernel_rfl) (fun _ h => by cases h) reportTexts_row_tie rfl ⟨rfl, rfl⟩ (by kernel_rfl) rfl
  (fun f fn hf hfn => by
   obtain rfl : f = 3 := Option.some.inj (reportTexts_n.symm.trans hf) |>.symm
   obtain rfl : fn = f3 := (Option.some.inj (func3.symm.trans hfn)).symm
   exact ⟨by kernel_rfl, fun j t ht => by
    rw [Tryz.params3] at ht
    have hm : t ∈ [25, 26] := by simpa using Array.mem_of_getElem? ht
    have hall : ([25, 26].all fun u => !prog.wantsStandIn u) = true := by kernel_rfl
    exact (show prog.wantsStandIn t = false by simpa using List.all_eq_true.1 hall t hm)⟩)
  (by kernel_rfl)
#print axioms reportTexts_proved
end Go.Proofs.YtkcbffldncmbcaaGreatDoor
