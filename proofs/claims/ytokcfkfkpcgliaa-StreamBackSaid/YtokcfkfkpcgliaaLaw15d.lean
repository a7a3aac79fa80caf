/-
  StreamBack: messages that are put are heard as they were, cut in two at any place.
-/
import Derived.Test.YtokcfkfkpcgliaaLaw15c
namespace Go.Proofs.Ytokcfkfkpcgliaa
open Go.RowKit
set_option maxRecDepth 100000

/-- The frames of messages, one behind the other. -/
def putAll (l : List (List UInt8)) : List UInt8 := (l.map fun t => putB 2 t.length ++ t).flatten
theorem putAll_snoc (l : List (List UInt8)) (k : Nat) (h : k < l.length) : putAll (l.take (k + 1)) = putAll (l.take k) ++ (putB 2 (l[k]).length ++ l[k]) := by
  unfold putAll
  rw [List.take_succ_eq_append_getElem h, List.map_append, List.flatten_append]
  simp only [List.map_cons, List.map_nil, List.flatten_cons, List.flatten_nil, List.append_nil]
theorem frames_all : ∀ (l : List (List UInt8)), (∀ t ∈ l, t.length ≤ 65535) → frames (putAll l) = l ∧ restF (putAll l) = [] := by
  intro l
  induction l with
  | nil => intro _; exact frames_no [] rfl
  | cons t l ih =>
    intro h
    obtain ⟨i1, i2⟩ := ih (fun x hx => h x (List.mem_cons_of_mem _ hx))
    obtain ⟨h1, h2, h3⟩ := frame1 t (putAll l) (h t (List.mem_cons_self ..))
    have e : putAll (t :: l) = putB 2 t.length ++ t ++ putAll l := by simp [putAll]
    rw [e, (frames_yes _ h1).1, (frames_yes _ h1).2, h2, h3, i1, i2]
    exact ⟨rfl, rfl⟩

set_option maxHeartbeats 1000000 in
theorem streamBack_in (A : Option Addr) (c : Nat) (l : List (List UInt8)) (at_ : Int) (w : World) (hA : TxtR w A l) (hl : l.length ≤ 20) :
    Calls Try.prog 8 #[.slice A l.length c, .int .i64 at_] w (RetB (.bool true) w) := by
  have hl' : (l.length : Int) ≤ 20 := by omega
  go_enter Try.func8, Try.ntmps8
  go_wp2_with fail
  refine (works15 _).mono ?_
  rintro e w1 ⟨rfl, b1⟩
  go_wp2_with fail
  go_loopw [5, 6] (fun q i wr => ∃ k : Nat, k ≤ l.length ∧ i = .int .i64 k ∧ q = .string (bs (putAll (l.take k))) ∧ (putAll (l.take k)).length ≤ 502 * k ∧ (∀ t ∈ l.take k, t.length ≤ 500) ∧ Below w.heap.size w wr) (fun _ i _ => l.length - (intOf i).toNat)
  case atStart => exact ⟨0, by omega, rfl, rfl, by simp [putAll], by simp, b1⟩
  case round =>
    clear b1
    obtain ⟨k, hk, rfl, rfl, hlen, hall, b0⟩ := hrel
    have AL := Lib.hid hall
    clear hall
    by_cases hlt : k < l.length
    · have hlt' : (k : Int) < l.length := by omega
      obtain ⟨ba, oa, rfl, hba, xa⟩ := hA (by omega)
      have xk0 := xa k hlt
      have XK := Lib.hid xk0
      have xk := (b0.cell hba).trans xk0
      clear xa xk0
      by_cases hlong : 500 < (l[k]).length
      · have hlong' : (500 : Int) < (l[k]).length := by omega
        go_wp2_with fail
        go_ret
        exact RetB.mk rfl b0
      · have hlong' : ((l[k]).length : Int) ≤ 500 := by omega
        have PS := Lib.hid (putAll_snoc l k hlt)
        have pl := putB_length 2 ((l[k]).length : Int)
        go_wp2_with fail
        refine (streamPut_ok _ _ (by omega)).mono ?_
        rintro e w2 ⟨rfl, b2⟩
        have b2' := below_then b0 b0.size b2
        generalize hq : putB 2 ((l[k]).length : Int) = q at *
        have HQ := Lib.hid hq
        have hq2 : q.length ≤ 2 := by omega
        clear pl hq b2 b0 xk
        go_wp2_with fail
        have hcell : ∀ W, Below w.heap.size w W → W.cell? ⟨ba, oa + k, none⟩ = some (.string (bs l[k])) := fun W hW => (hW.cell hba).trans XK.out
        have HS := Lib.hid hcell
        clear hcell
        have hadd : ∀ W : World, (Op.stringOp .add (bs q) (bs l[k])).run Try.prog W = .ok (.string (bs (q ++ l[k]))) W := fun W => by rw [run_string_add_sum W _ _ (by simp only [bs_size]; omega), bs_app]
        go_region_held3 (fun w' => Below w.heap.size w w' ∧ w'.cell? ⟨ba, oa + k, none⟩ = some (.string (bs l[k]))) ((refine bothp ?_ (HS.out _); first | exact b2'.drew | exact below_then (And.left ‹Below w.heap.size w _ ∧ _›) (And.left ‹Below w.heap.size w _ ∧ _›).size b3))
          (first
            | (go_at_call 23; refine (refPut_any _ _ _).mono ?_; rw [show hw 2 = 2 from rfl, HQ.out]; rintro e w3 ⟨rfl, b3⟩))
        have bR := And.left ‹Below w.heap.size w _ ∧ _›
        clear HS hadd
        clear ‹Below w.heap.size w _ ∧ _›
        go_wp2_with fail
        go_roundw
        case rel =>
          refine ⟨k + 1, by omega, by go_num, ?_, ?_, ?_, bR⟩
          · rw [PS.out]
          · rw [PS.out, List.length_append, List.length_append]; omega
          · intro t ht
            rw [List.take_succ_eq_append_getElem hlt] at ht
            rcases List.mem_append.1 ht with h | h
            · exact AL.out t h
            · simp at h; subst h; omega
        case measure => simp [intOf]; omega
    · have hlt' : ¬ (k : Int) < l.length := by omega
      have hk2 : l.take k = l := List.take_of_length_le (by omega)
      obtain ⟨fa1, fa2⟩ := frames_all l (fun t ht => by have := AL.out t (by rw [hk2]; exact ht); omega)
      rw [hk2] at hlen
      rw [hk2]
      have hL : (putAll l).length ≤ 10040 := by omega
      have FA1 := Lib.hid fa1
      have FA2 := Lib.hid fa2
      clear hk2 AL fa1 fa2 hlen
      generalize putAll l = L at *
      obtain ⟨m, hm⟩ : ∃ m : Nat, m = ((IntKind.u64.wrap at_) % (L.length + 1)).toNat := ⟨_, rfl⟩
      have hu0 : 0 ≤ IntKind.u64.wrap at_ := by rw [IntKind.wrap_u64]; omega
      have hme : (m : Int) = (IntKind.u64.wrap at_) % (L.length + 1) := by
        rw [hm]; exact Int.toNat_of_nonneg (Int.emod_nonneg _ (by omega))
      have hmL : m ≤ L.length := by
        have := Int.emod_lt_of_pos (IntKind.u64.wrap at_) (show (0 : Int) < L.length + 1 by omega)
        omega
      have hcut : wrap64 ((IntKind.u64.wrap at_).tmod (L.length + 1)) = m := by
        rw [Int.tmod_eq_emod_of_nonneg hu0, ← hme]
        exact IntWalk.wrap64_in _ ⟨by omega, by omega⟩
      clear hm hu0 hme
      obtain ⟨q1, q2⟩ := frames_app _ (L.take m) (L.drop m) (Nat.le_refl _)
      rw [List.take_append_drop] at q1 q2
      have Q1 := Lib.hid q1
      have Q2 := Lib.hid q2
      clear q1 q2
      have hf1 := frames_le _ (L.take m) (Nat.le_refl _)
      have hf2 := frames_le _ (restF (L.take m) ++ L.drop m) (Nat.le_refl _)
      have htl : (L.take m).length = m := by simp; omega
      rw [List.length_append, List.length_drop] at hf2
      rw [htl] at hf1
      have TL := Lib.hid htl
      clear htl
      go_wp2_with fail
      refine (feed_any wr.heap.size [] (L.take m) _ (joinNew wr) (by rw [TL.out]; simp; omega)).mono ?_
      rw [List.nil_append]
      rintro e w2 ⟨v2, rfl, t2, j2, g2⟩
      have b2 : Below w.heap.size w w2 := below_grown (b0.alloc b0.size _) g2 (by have := b0.size; simp; omega) b0.size
      have ob2 : v2.ownBlock ≠ some wr.heap.size := by
        intro e
        obtain ⟨_, _, _, _, jb, _⟩ := j2
        rcases t2.2 with ⟨rfl, _⟩ | ⟨g', cap, cur, rfl, _, hh, _⟩
        · simp [Value.ownBlock] at e
        · have : g' = wr.heap.size := by simpa [Value.ownBlock] using e
          subst this
          unfold Blk at jb
          rw [hh] at jb
          injection jb with jb
          injection jb with _ he
          exact absurd he (by decide)
      clear g2
      go_wp2_with fail
      refine (feed_any wr.heap.size _ (L.drop m) _ j2 (by simp; omega)).mono ?_
      rintro e w3 ⟨v3, rfl, t3, j3, g3⟩
      have b3 : Below w.heap.size w w3 := below_grown b2 g3 b2.size b0.size
      have t2' : Txts w3 v2 (frames (L.take m)) := by
        obtain ⟨_, _, _, _, jb, _⟩ := j2
        exact t2.grown g3 jb (by decide)
      clear t2 j2 g3 b2
      go_wp2_with (at_builtin; go_must (refine wpList_app_t _ rfl (.tmp 78) (.tmp 79) rfl (.slice none 0 0) v2 [] _ rfl (Txts.nil _) rfl t2' (by simp; omega) ?_))
      intro v4 w4 t4 g4 hat4
      have b34 : Below w3.heap.size w3 w4 := (Below.refl _ _).grown g4 (Nat.le_refl _) (by simp [Value.ownBlock])
      have t3' := t3.below b34
      have j4 := j3.below b34
      have b4 := below_then b3 b3.size b34
      have ob4 : ∀ j, v4.ownBlock = some j → w.heap.size ≤ j := by
        intro j hj
        rcases hat4 with e | e
        · rw [e] at hj; simp [Value.ownBlock] at hj
        · rw [e] at hj; injection hj with hj; have := b3.size; omega
      have OB4 := Lib.hid ob4
      clear g4 hat4 ob4 t3 j3 t2' b34 b3
      go_wp2_with (at_builtin; go_must (refine wpList_app_t _ rfl (.tmp 81) (.tmp 82) rfl v4 v3 _ _ rfl t4 rfl t3' (by omega) ?_))
      intro v5 w5 t5 g5 _
      have j5 := j4.keep (own_keeps t4 g5)
      have b5 : Below w.heap.size w w5 := b4.grown g5 b4.size OB4.out
      rw [← Q1.out, FA1.out] at t5
      rw [← Q2.out, FA2.out] at j5
      obtain ⟨A5, c5, rfl, r5, _⟩ := t5.form
      have hA5 : TxtR w5 A l := fun hp => by
        obtain ⟨b, off, e, hlt, hc⟩ := hA hp
        exact ⟨b, off, e, Nat.lt_of_lt_of_le hlt (Nat.le_trans (Nat.le_refl _) b5.size), fun i hi => (b5.cell hlt).trans (hc i hi)⟩
      clear g5 OB4 t4 t3' j4 b4 t5
      go_wp2_with fail
      refine (same_any A5 A _ _ _ _ _ r5 hA5 (by omega) (by omega)).mono ?_
      rw [decide_eq_true rfl]
      rintro e w6 ⟨rfl, b6⟩
      go_wp2_with fail
      refine (joinLeft_any _ _ _ (j5.below b6)).mono ?_
      rintro e w' ⟨rfl, rfl⟩
      go_wp2_with fail
      go_ret
      exact RetB.mk rfl (below_then b5 b5.size b6)

theorem streamBack_any (A : Option Addr) (c : Nat) (l : List (List UInt8)) (at_ : Int) (w : World) (hA : TxtR w A l) : Calls Try.prog 8 #[.slice A l.length c, .int .i64 at_] w (RetB (.bool true) w) := by
  by_cases hl : l.length ≤ 20
  · exact streamBack_in A c l at_ w hA hl
  · have hl' : (20 : Int) < l.length := by omega
    go_enter Try.func8, Try.ntmps8
    go_wp2_with fail
    refine (works15 _).mono ?_
    rintro e w1 ⟨rfl, b1⟩
    go_wp2_with fail
    refine (works15 _).mono ?_
    rintro e w2 ⟨rfl, b2⟩
    go_wp2_with fail
    go_ret
    exact RetB.mk rfl (below_then b1 b1.size b2)
end Go.Proofs.Ytokcfkfkpcgliaa
