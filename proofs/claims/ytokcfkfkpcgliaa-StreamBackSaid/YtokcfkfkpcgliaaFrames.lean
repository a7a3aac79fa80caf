/-
  Layer 15 (stream): the reference's Frames, SameTexts, and Put.
-/
import Derived.Test.YtokcfkfkpcgliaaFeed
namespace Go.Proofs.Ytokcfkfkpcgliaa
open Go.RowKit
set_option maxRecDepth 100000

/-- What Frames comes to. -/
def FrRet (s : List UInt8) (w : World) (e : Ending) (w' : World) : Prop := ∃ v, e = .returned (.tuple #[v, .int .i64 ((s.length - (restF s).length : Nat) : Int)]) ∧ Txts w' v (frames s) ∧ Below w.heap.size w w'
/-- What holds while frames are counted. -/
def FrInv (w : World) (s : List UInt8) (k : Nat) (v : Value) (wr : World) : Prop :=
  ∃ done, k ≤ s.length ∧ Txts wr v done ∧ done.length ≤ k ∧ Below w.heap.size w wr ∧ (∀ k, v.ownBlock = some k → w.heap.size ≤ k) ∧ frames s = done ++ frames (s.drop k) ∧ restF s = restF (s.drop k)

theorem cut_at (s : List UInt8) (k n : Nat) : ((s.drop k).drop 2).take n = (s.take (k + 2 + n)).drop (k + 2) := by
  rw [List.drop_drop, List.drop_take]; congr 1; omega
set_option maxHeartbeats 1000000 in
theorem frames_any (s : List UInt8) (w : World) (hb : s.length ≤ 8796093022208) : Calls Try.prog 29 #[.string (bs s)] w (FrRet s w) := by
  have HI := Lib.hid (show FrInv w s 0 (.slice none 0 0) w from ⟨[], Nat.zero_le _, Txts.nil _, Nat.le_refl _, Below.refl _ _, by simp [Value.ownBlock], by simp, by simp⟩)
  go_enter Try.func29, Try.ntmps29
  go_wp2_with fail
  go_loopw [4, 5] (fun v i wr => ∃ k : Nat, i = .int .i64 k ∧ FrInv w s k v wr) (fun _ i _ => s.length + 2 - (intOf i).toNat)
  case atStart => exact ⟨0, rfl, HI.out⟩
  case round =>
    clear HI
    obtain ⟨k, rfl, done, hk, t0, hdl, b0, hob, e1, e2⟩ := hrel
    have E1 := Lib.hid e1
    have E2 := Lib.hid e2
    have OB := Lib.hid hob
    clear e1 e2 hob
    by_cases hlen : k + 2 ≤ s.length
    · have hlen' : (k : Int) + 2 ≤ s.length := by omega
      go_wp2_with fail
      refine (refNum_any _ _ (by simp; omega)).mono ?_
      rintro e w' ⟨rfl, rfl⟩
      have hnn : numB (((s.take (k + 2)).drop k)) = numB ((s.drop k).take 2) := by rw [List.drop_take]; congr 2; omega
      have hlt : numB ((s.take (k + 2)).drop k) < 65536 := numB_le _ 2 (by simp; omega)
      have NN := Lib.hid hnn
      clear hnn
      have hrl : (s.drop k).length = s.length - k := by simp
      by_cases hwh : k + 2 + numB ((s.take (k + 2)).drop k) ≤ s.length
      · have hwt : wholeB (s.drop k) = true := (wholeB_iff _).2 ⟨by omega, by rw [← NN.out]; omega⟩
        have F1 := Lib.hid (frames_yes _ hwt)
        have R1 := Lib.hid (show rest1 (s.drop k) = s.drop (k + 2 + numB ((s.take (k + 2)).drop k)) by unfold rest1; rw [← NN.out, List.drop_drop]; congr 1; omega)
        have M1 := Lib.hid (show msg1 (s.drop k) = (s.take (k + 2 + numB ((s.take (k + 2)).drop k))).drop (k + 2) by
          unfold msg1; rw [← NN.out]; exact cut_at s k _)
        clear hwt hrl
        have hwh' : (k : Int) + 2 + numB ((s.take (k + 2)).drop k) ≤ s.length := by omega
        generalize numB ((s.take (k + 2)).drop k) = n at *
        go_wp2_with (at_builtin; go_must (refine wpList_app _ rfl (.tmp 25) (.tmp 34) 38 rfl 9 (.string ⟨#[]⟩) 1 16 Try.underlying38 strInfo rfl (by decide) u4 done.length _ rfl (World.ownsRow.alloc t0 _) ⟨wr.heap.size, 0, none⟩ 1 1 [.string (bs ((s.take (k + 2 + n)).drop (k + 2)))] rfl rfl (new_one _ _ _ _ rfl) (one_cell1 rfl) (by decide) (by simp only [maxLen]; omega) (by omega) ?_))
        intro gg cap w6 own6 g6 hat
        have b6 : Below w.heap.size w w6 := (b0.alloc b0.size _).grown g6 (by have := b0.size; simp; omega) OB.out
        have T6 := Lib.hid (show Txts w6 (.slice (some ⟨gg, 0, none⟩) (done.length + 1) cap) (done ++ [msg1 (s.drop k)]) by
          unfold Txts
          rw [M1.out]
          simpa using own6)
        have OB6 := Lib.hid (show w.heap.size ≤ gg by
          rcases hat with e | e
          · exact OB.out _ e
          · have := b0.size; omega)
        clear own6 g6 hat OB t0 b0
        go_wp2_with fail
        go_roundw
        case rel =>
          refine ⟨k + 2 + n, by go_num, done ++ [msg1 (s.drop k)], by omega, T6.out, by simp; omega, b6, ?_, ?_, ?_⟩
          · intro j hj
            have : gg = j := by simpa [Value.ownBlock] using hj
            subst this; exact OB6.out
          · rw [E1.out, F1.out.1, R1.out]; simp
          · rw [E2.out, F1.out.2, R1.out]
        case measure => simp [intOf]; omega
      · have hno : wholeB (s.drop k) = false := by
          rw [← Bool.not_eq_true, wholeB_iff, ← NN.out]; omega
        have FN := Lib.hid (frames_no _ hno)
        clear hno
        have hwh' : (s.length : Int) < (k : Int) + 2 + numB ((s.take (k + 2)).drop k) := by omega
        generalize numB ((s.take (k + 2)).drop k) = n at *
        go_wp2_with fail
        go_ret2
        refine ⟨_, ?_, by rw [E1.out, FN.out.1, List.append_nil]; exact t0, b0⟩
        rw [E2.out, FN.out.2, List.length_drop, show s.length - (s.length - k) = k by omega]
        rfl
    · have hno : wholeB (s.drop k) = false := by
        rw [← Bool.not_eq_true, wholeB_iff]; simp; omega
      have FN := Lib.hid (frames_no _ hno)
      clear hno
      have hlen' : (s.length : Int) < (k : Int) + 2 := by omega
      go_wp2_with fail
      go_ret2
      refine ⟨_, ?_, by rw [E1.out, FN.out.1, List.append_nil]; exact t0, b0⟩
      rw [E2.out, FN.out.2, List.length_drop, show s.length - (s.length - k) = k by omega]
      rfl
end Go.Proofs.Ytokcfkfkpcgliaa
