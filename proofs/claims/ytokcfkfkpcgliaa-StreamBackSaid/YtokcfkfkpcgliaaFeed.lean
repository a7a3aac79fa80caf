/-
  Layer 15 (stream): Feed.
-/
import Derived.Test.YtokcfkfkpcgliaaFrm
namespace Go.Proofs.Ytokcfkfkpcgliaa
open Go.RowKit
set_option maxRecDepth 100000

theorem own_keeps {w w' : World} {e : TypeId} {size n : Nat} {v : Value} {xs : List Value} (h : w.ownsRow 0 e size v n xs) (hg : w.grownBy w' v.ownBlock) : ∀ j t cs, t ≠ e → Blk w j t cs → Blk w' j t cs := by
  intro j t cs hne hb
  refine hb.grown hg ?_
  rcases h.2 with ⟨rfl, _⟩ | ⟨g', cap, cur, rfl, _, hh, _⟩
  · simp [Value.ownBlock]
  · intro he
    have : j = g' := by simpa [Value.ownBlock] using he
    subst this
    unfold Blk at hb
    rw [hh] at hb
    injection hb with hb
    injection hb with _ ht
    exact hne ht.symm
theorem JoinAt.keep {w w' : World} {g : Nat} {p : List UInt8} (hk : ∀ j t cs, t ≠ 9 → Blk w j t cs → Blk w' j t cs) (h : JoinAt w g p) : JoinAt w' g p := by
  obtain ⟨last, ts, b0, b1, hb, hc, r⟩ := h
  exact ⟨last, ts, b0, b1, hk _ _ _ (by decide) hb, Chain.keep (fun j cs hb => hk j _ cs (by decide) hb) _ _ hc, r⟩
theorem JoinAt.below {w w' : World} {g : Nat} {p : List UInt8} (h : JoinAt w g p) (hb : Below w.heap.size w w') : JoinAt w' g p :=
  h.keep fun _ _ _ _ hj => hj.below hb hj.lt
theorem JoinAt.lt {w : World} {g : Nat} {p : List UInt8} (h : JoinAt w g p) : g < w.heap.size := by
  obtain ⟨_, _, _, _, hb, _⟩ := h
  exact hb.lt
theorem JoinAt.grown {w w' : World} {g k : Nat} {p : List UInt8} (h : JoinAt w g p) (hg : w.grownBy w' (some k)) {t : TypeId} {cs : List Value} (hk : Blk w k t cs) (h1 : t ≠ 43) (h2 : t ≠ 114) : JoinAt w' g p := by
  obtain ⟨last, ts, b0, b1, hb, hc, r⟩ := h
  refine ⟨last, ts, b0, b1, hb.grown hg ?_, Chain.keep (fun j cs hj => hj.grown hg ?_) _ _ hc, r⟩
  · intro e; injection e with e; exact hb.ne_of hk (Ne.symm h1) e
  · intro e; injection e with e; exact hj.ne_of hk (Ne.symm h2) e
theorem Txts.below {w w' : World} {v : Value} {l : List (List UInt8)} (h : Txts w v l) (hb : Below w.heap.size w w') : Txts w' v l := by
  refine World.ownsRow.kept h (grown_of_below hb none) ?_
  cases hv : v.ownBlock with
  | none => exact .inl rfl
  | some g => exact .inr (by simp)
theorem Txts.grown {w w' : World} {v : Value} {l : List (List UInt8)} {k : Nat} {t : TypeId} {cs : List Value} (h : Txts w v l) (hg : w.grownBy w' (some k)) (hk : Blk w k t cs) (ht : t ≠ 9) : Txts w' v l := by
  refine World.ownsRow.kept h hg ?_
  cases hv : v.ownBlock with
  | none => exact .inl rfl
  | some g =>
    refine .inr ?_
    intro e
    injection e with e
    subst e
    rcases h.2 with ⟨rfl, _⟩ | ⟨g', cap, cur, rfl, _, hh, _⟩
    · simp [Value.ownBlock] at hv
    · have : g' = g := by simpa [Value.ownBlock] using hv
      subst this
      unfold Blk at hk
      rw [hh] at hk
      injection hk with hk
      injection hk with _ he
      exact ht he.symm

/-- What Feed comes to. -/
def FeedRet (g : Nat) (fr : List (List UInt8)) (rest : List UInt8) (w : World) (e : Ending) (w' : World) : Prop := ∃ v, e = .returned v ∧ Txts w' v fr ∧ JoinAt w' g rest ∧ w.grownBy w' (some g)

def strLen : Value → Nat
  | .string s => s.size
  | _ => 0

theorem feed_nil (s : List UInt8) (w : World) : Calls Try.prog 28 #[.pointer none, .string (bs s)] w (Ret (.slice none 0 0) w) := by
  go_enter Try.func28, Try.ntmps28
  go_wp2
  go_ret
  exact Ret.mk rfl rfl

theorem feed_no (g : Nat) (p s : List UInt8) (w : World) (h : JoinAt w g p) (hb : p.length + s.length ≤ 281474976710656) (hw : wholeB (p ++ s) = false) :
    Calls Try.prog 28 #[.pointer (some ⟨g, 0, none⟩), .string (bs s)] w (FeedRet g (frames (p ++ s)) (restF (p ++ s)) w) := by
  rw [(frames_no _ hw).1, (frames_no _ hw).2]
  have HW := Lib.hid hw
  clear hw
  go_enter Try.func28, Try.ntmps28
  go_wp2_with fail
  refine (keep_any g p s w h hb).mono ?_
  rintro e w1 ⟨rfl, h1, g1⟩
  go_wp2_with fail
  refine (whole_any g _ _ h1 (by simpa using hb)).mono ?_
  rw [HW.out]
  rintro e w2 ⟨rfl, b2⟩
  go_wp2_with fail
  go_ret
  exact ⟨_, rfl, Txts.nil _, h1.below b2, grown_below g1 b2⟩

/-- What holds while frames are cut off. -/
def FeedInv (w : World) (g : Nat) (s : List UInt8) (r : List UInt8) (v : Value) (wr : World) : Prop :=
  ∃ done, Txts wr v done ∧ done.length + r.length ≤ s.length ∧ JoinAt wr g [] ∧ w.grownBy wr (some g) ∧ (∀ k, v.ownBlock = some k → w.heap.size ≤ k) ∧ frames s = done ++ frames r ∧ restF s = restF r

set_option maxHeartbeats 1000000 in
theorem feed_yes (g : Nat) (p s : List UInt8) (w : World) (h : JoinAt w g p) (hb : p.length + s.length ≤ 8796093022208) (hw : wholeB (p ++ s) = true) :
    Calls Try.prog 28 #[.pointer (some ⟨g, 0, none⟩), .string (bs s)] w (FeedRet g (frames (p ++ s)) (restF (p ++ s)) w) := by
  have HW := Lib.hid hw
  clear hw
  have hls : (p ++ s).length ≤ 8796093022208 := by simpa using hb
  go_enter Try.func28, Try.ntmps28
  go_wp2_with fail
  refine (keep_any g p s w h (by omega)).mono ?_
  rintro e w1 ⟨rfl, h1, g1⟩
  go_wp2_with fail
  refine (whole_any g _ _ h1 (by omega)).mono ?_
  rw [HW.out]
  rintro e w2 ⟨rfl, b2⟩
  have h2 := h1.below b2
  have g2 := grown_below g1 b2
  go_wp2_with fail
  refine (empty_any g _ _ h2 (by omega)).mono ?_
  rintro e w3 ⟨rfl, h3, g3⟩
  have g3' := grown_trans g2 g3 (.inl rfl)
  generalize p ++ s = ps at *
  clear h h1 h2 g1 g2 g3 b2 HW
  clear w1 w2
  have hinv : FeedInv w g ps ps (.slice none 0 0) w3 := ⟨[], Txts.nil _, by simp, h3, g3', by simp [Value.ownBlock], by simp, rfl⟩
  have HI := Lib.hid hinv
  clear hinv h3 g3'
  go_wp2_with fail
  go_loopw [5, 6] (fun v q wr => ∃ r : List UInt8, q = .string (bs r) ∧ FeedInv w g ps r v wr) (fun _ q _ => strLen q)
  case atStart => exact ⟨ps, rfl, HI.out⟩
  case round =>
    clear HI
    obtain ⟨r, rfl, done, t0, hdl, j0, f0, hob, e1, e2⟩ := hrel
    have OB := Lib.hid hob
    clear hob
    have E1 := Lib.hid e1
    have E2 := Lib.hid e2
    clear e1 e2
    by_cases hlen : 2 ≤ r.length
    · have hlen' : (2 : Int) ≤ r.length := by omega
      go_wp2_with fail
      refine (new_any r _).mono ?_
      rintro e w4 ⟨rfl, y4, b4⟩
      go_wp2_with fail
      refine (num2s _ r _ y4 (by simp only [maxLen]; omega) hlen).mono ?_
      rintro e w5 ⟨rfl, y5, g5⟩
      have t5 : Txts w5 u5 done := (t0.below b4).grown g5 y4 (by decide)
      have j5 : JoinAt w5 g [] := (j0.below b4).grown g5 y4 (by decide) (by decide)
      have f5 : w.grownBy w5 (some g) := grown_trans (grown_below f0 b4) g5 (.inr (fun k hk => by injection hk with hk; subst hk; exact f0.size))
      have hlt5 : numB (r.take 2) < 65536 := numB_le _ 2 (by simp; omega)
      clear t0 j0 f0 b4 g5 y4 y5
      clear w4
      by_cases hwh : numB (r.take 2) ≤ r.length - 2
      · have hwt : wholeB r = true := (wholeB_iff r).2 ⟨hlen, hwh⟩
        have F1 := Lib.hid (frames_yes r hwt)
        have hrl := rest1_lt r hwt
        have R1 := Lib.hid (show rest1 r = r.drop (2 + numB (r.take 2)) from rfl)
        have M1 := Lib.hid (show msg1 r = (r.take (2 + numB (r.take 2))).drop 2 by rw [List.drop_take]; unfold msg1; congr 1; omega)
        have hn1 : (numB (r.take 2) : Int) ≤ (r.length : Int) - 2 := by omega
        clear hwt
        generalize numB (r.take 2) = n at *
        go_wp2_with (at_builtin; go_must (refine wpList_app _ rfl (.tmp 29) (.tmp 34) 38 rfl 9 (.string ⟨#[]⟩) 1 16 Try.underlying38 strInfo rfl (by decide) u5 done.length _ rfl (World.ownsRow.alloc t5 _) ⟨w5.heap.size, 0, none⟩ 1 1 [.string (bs ((r.take (2 + n)).drop 2))] rfl rfl (new_one _ _ _ _ rfl) (one_cell1 rfl) (by decide) (by simp only [maxLen]; omega) (by omega) ?_))
        intro gg cap w6 own6 g6 hat
        have hkp := own_keeps (World.ownsRow.alloc t5 (.cells #[.string (bs ((r.take (2 + n)).drop 2))] 9)) g6
        have j6 : JoinAt w6 g [] := (j5.keep (fun _ _ _ _ hb => hb.alloc _)).keep hkp
        have f6 : w.grownBy w6 (some g) := grown_trans (grown_alloc f5 _) g6 (.inr OB.out)
        have t6 : Txts w6 (.slice (some ⟨gg, 0, none⟩) (done.length + 1) cap) (done ++ [msg1 r]) := by
          unfold Txts
          rw [M1.out]
          simpa using own6
        have ob6 : w.heap.size ≤ gg := by
          rcases hat with e | e
          · exact OB.out _ e
          · have := f5.size; omega
        have OB6 := Lib.hid ob6
        have T6 := Lib.hid t6
        clear hkp own6 g6 hat OB t5 j5 f5 ob6 t6
        go_wp2_with fail
        go_roundw
        case rel =>
          refine ⟨r.drop (2 + n), rfl, done ++ [msg1 r], T6.out, ?_, j6, f6, ?_, ?_, ?_⟩
          · simp; omega
          · intro k hk
            have : gg = k := by simpa [Value.ownBlock] using hk
            subst this; exact OB6.out
          · rw [E1.out, F1.out.1, R1.out]; simp
          · rw [E2.out, F1.out.2, R1.out]
        case measure => simp [strLen]; omega
      · have hno : wholeB r = false := by
          rw [← Bool.not_eq_true, wholeB_iff]; omega
        have hn1 : (r.length : Int) - 2 < (numB (r.take 2) : Int) := by omega
        go_wp2_with fail
        refine (strClone_any r _ (by omega)).mono ?_
        rintro e w6 ⟨rfl, b6⟩
        go_wp2_with fail
        refine (keep_any g [] r _ (j5.below b6) (by simp; omega)).mono ?_
        rintro e w7 ⟨rfl, j7, g7⟩
        go_wp2_with fail
        go_ret
        obtain ⟨_, _, _, _, jb, _⟩ := j5.below b6
        exact ⟨_, rfl, by rw [E1.out, (frames_no _ hno).1, List.append_nil]; exact (t5.below b6).grown g7 jb (by decide), by rw [E2.out, (frames_no _ hno).2]; exact j7, grown_trans (grown_below f5 b6) g7 (.inl rfl)⟩
    · have hno : wholeB r = false := by
        rw [← Bool.not_eq_true, wholeB_iff]; omega
      have hlen' : ¬ (2 : Int) ≤ r.length := by omega
      have t5 := t0
      have j5 := j0
      have f5 := f0
      go_wp2_with fail
      refine (strClone_any r _ (by omega)).mono ?_
      rintro e w6 ⟨rfl, b6⟩
      go_wp2_with fail
      refine (keep_any g [] r _ (j5.below b6) (by simp; omega)).mono ?_
      rintro e w7 ⟨rfl, j7, g7⟩
      go_wp2_with fail
      go_ret
      obtain ⟨_, _, _, _, jb, _⟩ := j5.below b6
      exact ⟨_, rfl, by rw [E1.out, (frames_no _ hno).1, List.append_nil]; exact (t5.below b6).grown g7 jb (by decide), by rw [E2.out, (frames_no _ hno).2]; exact j7, grown_trans (grown_below f5 b6) g7 (.inl rfl)⟩

theorem feed_any (g : Nat) (p s : List UInt8) (w : World) (h : JoinAt w g p) (hb : p.length + s.length ≤ 8796093022208) :
    Calls Try.prog 28 #[.pointer (some ⟨g, 0, none⟩), .string (bs s)] w (FeedRet g (frames (p ++ s)) (restF (p ++ s)) w) := by
  cases hw : wholeB (p ++ s) with
  | false => exact feed_no g p s w h (by omega) hw
  | true => exact feed_yes g p s w h hb hw
end Go.Proofs.Ytokcfkfkpcgliaa
