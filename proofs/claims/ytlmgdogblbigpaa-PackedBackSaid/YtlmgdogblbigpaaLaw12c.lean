/-
  PackedPuts: the law.
-/
import Derived.Test.YtlmgdogblbigpaaLaw12b
namespace Go.Proofs.Ytlmgdogblbigpaa
open Go.RowKit Go.Maps
set_option maxRecDepth 100000
set_option linter.unusedVariables false

/-- A slice of numbers. -/
def IntsR (w : World) (A : Option Addr) (l : List Int) : Prop := 0 < l.length → ∃ b off, A = some ⟨b, off, none⟩ ∧ b < w.heap.size ∧ ∀ i (hi : i < l.length), w.cell? ⟨b, off + i, none⟩ = some (.int .i64 l[i])
theorem IntsR.below {w w' : World} {A : Option Addr} {l : List Int} (h : IntsR w A l) (hb : Below w.heap.size w w') : IntsR w' A l := by
  intro hp
  obtain ⟨b, off, hA, hlt, hc⟩ := h hp
  exact ⟨b, off, hA, Nat.lt_of_lt_of_le hlt hb.size, fun i hi => (hb.cell hlt).trans (hc i hi)⟩
/-- The table behind k names. -/
def tabK (ls : List (List (List UInt8))) (ats : List Int) : Nat → List (List (List UInt8) × Nat)
  | 0 => []
  | k + 1 => putT (tabK ls ats k) (ats.getD k 0) (ls.getD k [])
theorem tabK_length (ls : List (List (List UInt8))) (ats : List Int) : ∀ k, (tabK ls ats k).length ≤ 254 * k
  | 0 => by simp [tabK]
  | k + 1 => by have h1 := tabK_length ls ats k; have h2 := putT_length (tabK ls ats k) (ats.getD k 0) (ls.getD k []); simp only [tabK]; omega
theorem MapOf.no_cell {w : World} {b n : Nat} {f : List UInt8 → Option Nat} (h : MapOf w b n f) (o : Nat) : w.cell? ⟨b, o, none⟩ = none := by
  obtain ⟨D, ⟨es, cl, hm, _⟩, _⟩ := h
  simp [World.cell?, hm]
theorem RTab.mapped {lo : Nat} {w w' : World} {g b gq n : Nat} {f : List UInt8 → Option Nat} {T : List (List (List UInt8) × Nat)} (h : RTab lo w gq T) (hm : MapOf w b n f) (hb : b < lo) (hq : lo ≤ gq) (hlo : lo ≤ w.heap.size) (hg : w.grownBy w' (some b)) : RTab lo w' gq T := by
  obtain ⟨vs, v, h1, h2, h3, h4, h5⟩ := h
  refine ⟨vs, v, h1, h2.grown hg (by simp; omega), h3.kept hg ?_, fun i hv ht => ?_, h5⟩
  · cases hv : v.ownBlock with
    | none => exact .inl rfl
    | some k => right; intro e; injection e with e; subst e; have := own_base h3 k hv; omega
  · obtain ⟨A, c, hA, hc⟩ := h4 i hv ht
    refine ⟨A, c, hA, fun hp => ?_⟩
    obtain ⟨b', off, hA', hlt, hcell⟩ := hc hp
    refine ⟨b', off, hA', hlt, fun j hj => ?_⟩
    rw [grown_cell hg ⟨b', off + j, none⟩ (show b' < w.heap.size by omega) ?_]
    · exact hcell j hj
    · intro e
      injection e with e
      simp only at e
      subst e
      have := hcell j hj
      rw [hm.no_cell] at this
      cases this
theorem TxtL.of {lo : Nat} {w w0 : World} {A : Option Addr} {c : Nat} {n : List (List UInt8)} (h : TxtR w0 A n) (hb : Below w0.heap.size w0 w) (hlo : w0.heap.size ≤ lo) : TxtL lo w (.slice A n.length c) n := by
  refine ⟨A, c, rfl, fun hp => ?_⟩
  obtain ⟨b, off, hA, hlt, hc⟩ := h hp
  exact ⟨b, off, hA, by omega, fun i hi => (hb.cell hlt).trans (hc i hi)⟩
theorem MapOf.lowered {w w' : World} {b n B : Nat} {f : List UInt8 → Option Nat} (h : MapOf w b n f) (hb : Below B w w') (hlt : b < B) : MapOf w' b n f := by
  obtain ⟨D, ⟨es, cl, hm, r⟩, hf⟩ := h
  exact ⟨D, ⟨es, cl, (hb.block b hlt).trans hm, r⟩, hf⟩
theorem RTab.new (w : World) (k : Nat) (hk : k = w.heap.size) : RTab w.heap.size (w.alloc (.cells #[.slice none 0 0] 40)) k [] := by
  refine ⟨[], .slice none 0 0, rfl, Blk.new' w _ [.slice none 0 0] k hk, World.ownsRow_nil _ _ _ _, fun i hv => by simp at hv, by simp⟩

set_option maxHeartbeats 4000000 in
theorem packedPuts_any (A B : Option Addr) (ca cb : Nat) (ls : List (List (List UInt8))) (ats : List Int) (w : World) (hA : NmsR w A ls) (hB : IntsR w B ats) (hats : ats.length ≤ 281474976710656) :
    Calls Try.prog 4 #[.slice A ls.length ca, .slice B ats.length cb] w (RetB (.bool true) w) := by
  go_enter Try.func4, Try.ntmps4
  go_wp2_with fail
  refine (works12 _).mono ?_
  rintro _ w1 ⟨rfl, b1⟩
  go_wp2_with fail
  refine (few12_any A ca ls w1 (hA.below b1)).mono ?_
  cases hfew : fewB ls with
  | false =>
    rintro _ w2 ⟨rfl, rfl⟩
    go_wp2_with fail
    refine (works12 _).mono ?_
    rintro _ w2 ⟨rfl, b2⟩
    go_wp2_with fail
    go_ret
    exact RetB.mk rfl (below_then b1 b1.size b2)
  | true =>
    rintro _ w2 ⟨rfl, rfl⟩
    obtain ⟨hl40, _⟩ := fewB_yes hfew
    clear hfew
    go_wp2_with fail
    refine (pnew_any _).mono ?_
    rintro _ w2 ⟨g, b, rfl, hT2, hB2, hg2, hb2⟩
    have b2' := below_then b1 b1.size hB2
    have hbw : w.heap.size ≤ b := Nat.le_trans b1.size hb2
    have hw2 := b2'.size
    have hbl : b < w2.heap.size := hT2.2.1.elim fun f h => h.1.lt
    have hgl : g < w2.heap.size := hT2.1.lt
    clear b1 hB2
    go_wp2_with fail
    have hT3 := hT2.alloc (.cells #[.slice none 0 0] 40)
    have hR3 := RTab.new w2 w2.heap.size rfl
    have b3 := b2'.alloc b2'.size (.cells #[.slice none 0 0] 40)
    go_loopw [9] (fun i wr => ∃ k : Nat, k ≤ ls.length ∧ i = .int .i64 k ∧ TabAt wr g b (tabK ls ats k) ∧ RTab w2.heap.size wr w2.heap.size (tabK ls ats k) ∧ Below w.heap.size w wr ∧ w2.heap.size ≤ wr.heap.size) (fun i _ => ls.length - (intOf i).toNat)
    case atStart => exact ⟨0, Nat.zero_le _, rfl, hT3, hR3, b3, by simp⟩
    case round =>
      clear hT3 hR3 b3 hT2
      obtain ⟨k, hk, rfl, hT, hR, hBw, hsz⟩ := hrel
      by_cases hlt : k < ls.length
      · have hlt' : (k : Int) < ls.length := by omega
        have d1 : decide ((k : Int) < ls.length) = true := decide_eq_true hlt'
        by_cases hlt2 : k < ats.length
        · have hlt2' : (k : Int) < ats.length := by omega
          obtain ⟨ba, oa, rfl, hba, xa⟩ := hA (by omega)
          obtain ⟨bb, ob, rfl, hbb, xb⟩ := hB (by omega)
          obtain ⟨Ai, ci, c1, hNm⟩ := xa k hlt
          have c2 := xb k hlt2
          clear xa xb
          have hcl : ∀ W, Below w.heap.size w W → (W.cell? ⟨ba, oa + k, none⟩ = some (.slice Ai ls[k].length ci) ∧ W.cell? ⟨bb, ob + k, none⟩ = some (.int .i64 ats[k])) := fun W hW => ⟨(hW.cell hba).trans c1, (hW.cell hbb).trans c2⟩
          have HCL := Lib.hid hcl
          have hTK : tabK ls ats (k + 1) = putT (tabK ls ats k) ats[k] ls[k] := by simp [tabK, List.getD, hlt, hlt2]
          have HTK := Lib.hid hTK
          have hTl := tabK_length ls ats k
          have hTl2 : (tabK ls ats k).length ≤ 900000 := by omega
          clear hcl hTK c1 c2 hTl
          generalize hat : ats[k] = at_ at *
          generalize hn : ls[k] = n at *
          have HN := Lib.hid hn
          have HAT := Lib.hid hat
          clear hn hat
          generalize tabK ls ats k = T at *
          go_wp2_with fail
          go_region_held3 (fun w' => Below w.heap.size w w' ∧ w'.cell? ⟨ba, oa + k, none⟩ = some (.slice Ai n.length ci) ∧ w'.cell? ⟨bb, ob + k, none⟩ = some (.int .i64 at_)) ((refine both ?_ (HCL.out _); first | exact hBw.drew | exact below_grown hBw.drew hg3 hBw.size hbw))
            ((go_at_call 24; refine (putTab_any g b T Ai ci n at_ _ (show TabAt wr.drew g b T from hT) (hNm.below hBw.drew) hTl2).mono ?_; rintro e w3 ⟨rfl, hT3, hg3⟩))
          have hB3 := And.left ‹Below w.heap.size w _ ∧ _›
          clear ‹Below w.heap.size w _ ∧ _›
          have hR3 : RTab w2.heap.size w3 w2.heap.size T := hT.2.1.elim fun f hf => RTab.mapped (g := g) (show RTab _ wr.drew _ T from hR) hf.1 hbl (Nat.le_refl _) hsz hg3
          have hsz3 : w2.heap.size ≤ w3.heap.size := Nat.le_trans hsz hg3.size
          clear hT hR hg3
          go_wp2_with fail
          go_region_held3 (fun w' => Below w.heap.size w w' ∧ w'.cell? ⟨ba, oa + k, none⟩ = some (.slice Ai n.length ci) ∧ w'.cell? ⟨bb, ob + k, none⟩ = some (.int .i64 at_)) ((refine both ?_ (HCL.out _); first | exact hB3.drew | exact hB3.drew.trans (hg4.mono hw2)))
            ((go_at_call 25; refine (refputTab_any w2.heap.size w2.heap.size T Ai ci n at_ _ (show RTab _ w3.drew _ T from hR3) hsz3 (Nat.le_refl _) (TxtL.of hNm.1 hB3.drew hw2) (hNm.below hB3.drew) hTl2).mono ?_; rintro e w4 ⟨rfl, hR4, hg4⟩))
          have hB4 := And.left ‹Below w.heap.size w _ ∧ _›
          clear ‹Below w.heap.size w _ ∧ _›
          have hsz4 : w2.heap.size ≤ w4.heap.size := Nat.le_trans hsz3 hg4.size
          have hT4 : TabAt w4 g b (putT T at_ n) := by
            obtain ⟨h1, ⟨f, h2, h3⟩, h4⟩ := hT3
            exact ⟨(Blk.drew h1).below hg4 hgl, ⟨f, MapOf.lowered (show MapOf w3.drew b _ f from h2) hg4 hbl, h3⟩, h4⟩
          clear hT3 hR3 hg4 hB3 hsz3
          go_wp2_with fail
          go_region_held3 (fun w' => Below w.heap.size w w' ∧ w'.cell? ⟨ba, oa + k, none⟩ = some (.slice Ai n.length ci) ∧ w'.cell? ⟨bb, ob + k, none⟩ = some (.int .i64 at_)) ((refine both ?_ (HCL.out _); first | exact hB4.drew | exact below_then hB4.drew hB4.size b5))
            ((go_at_call 24; refine (putNil_any Ai ci n at_ _ (hNm.below hB4.drew)).mono ?_; rintro e w5 ⟨rfl, b5⟩))
          have hB5 := And.left ‹Below w.heap.size w _ ∧ _›
          clear ‹Below w.heap.size w _ ∧ _›
          have hT5 := (show TabAt w4.drew g b _ from hT4).below b5
          have hR5 := RTab.below (show RTab _ w4.drew _ (putT T at_ n) from hR4) hsz4 b5
          have hsz5 := Nat.le_trans hsz4 b5.size
          clear hT4 hR4 hB4 hsz4 b5
          go_wp2_with fail
          go_region_held3 (fun w' => Below w.heap.size w w' ∧ w'.cell? ⟨ba, oa + k, none⟩ = some (.slice Ai n.length ci) ∧ w'.cell? ⟨bb, ob + k, none⟩ = some (.int .i64 at_)) ((refine both ?_ (HCL.out _); first | exact hB5.drew | exact below_then hB5.drew hB5.size b6))
            ((go_at_call 25; refine (refputNil_any Ai ci n at_ _ (hNm.below hB5.drew)).mono ?_; rintro e w6 ⟨rfl, b6⟩))
          have hB6 := And.left ‹Below w.heap.size w _ ∧ _›
          clear ‹Below w.heap.size w _ ∧ _›
          have hT6 := (show TabAt w5.drew g b _ from hT5).below b6
          have hR6 := RTab.below (show RTab _ w5.drew _ (putT T at_ n) from hR5) hsz5 b6
          have hsz6 := Nat.le_trans hsz5 b6.size
          clear hT5 hR5 hB5 hsz5 b6
          generalize hE : checkN n = err at *
          generalize hS : putS T at_ n = ps at *
          generalize hZ : putZ n = pz at *
          clear hE hS hZ
          go_wp2_with fail
          go_roundw
          case rel => exact ⟨k + 1, by omega, by go_num, by rw [HTK.out]; exact hT6, by rw [HTK.out]; exact hR6, hB6, hsz6⟩
          case measure => simp [intOf]; omega
        · have hlt2' : ¬ (k : Int) < ats.length := by omega
          have d2 : decide ((k : Int) < ats.length) = false := decide_eq_false hlt2'
          go_wp2_with fail
          go_ret
          exact RetB.mk rfl hBw
      · have hlt' : ¬ (k : Int) < ls.length := by omega
        have d1 : decide ((k : Int) < ls.length) = false := decide_eq_false hlt'
        go_wp2_with fail
        go_ret
        exact RetB.mk rfl hBw
end Go.Proofs.Ytlmgdogblbigpaa
