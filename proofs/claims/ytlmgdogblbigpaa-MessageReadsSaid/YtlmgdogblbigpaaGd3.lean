/-
  Layer 13 (rdata): getSOA.
-/
import Derived.Test.YtlmgdogblbigpaaGd2
namespace Go.Proofs.Ytlmgdogblbigpaa
open Go.RowKit
set_option maxRecDepth 100000
set_option linter.unusedVariables false
set_option linter.unusedSimpArgs false

/-- An Eye behind k numbers of four octets. -/
def eyeK (d : List UInt8) : Nat → List UInt8 × Bool
  | 0 => (d, false)
  | k + 1 => (takeR (eyeK d k).1 (eyeK d k).2 4, takeS (eyeK d k).1 (eyeK d k).2 4)
def eyeN (d : List UInt8) (k : Nat) : Int := numB (takeV (eyeK d k).1 (eyeK d k).2 4)
theorem eyeK_len (d : List UInt8) : ∀ k, (eyeK d k).1.length ≤ d.length
  | 0 => Nat.le_refl _
  | k + 1 => Nat.le_trans (takeR_len _ _ _) (eyeK_len d k)
def soaL (d : List UInt8) (L : List Value) (k : Nat) : List Value := L.take 27 ++ ints64 ((List.range k).map (eyeN d)) ++ L.drop (27 + k)
theorem soaL_len (d : List UInt8) (L : List Value) (k : Nat) (hl : L.length = 33) (hk : k ≤ 5) : (soaL d L k).length = 33 := by
  simp [soaL, ints64, hl]; omega
theorem soaL_zero (d : List UInt8) (L : List Value) : soaL d L 0 = L := by simp [soaL, ints64]
theorem soaL_step (d : List UInt8) (L : List Value) (k : Nat) (hl : L.length = 33) (hk : k < 5) : (soaL d L k).set (27 + k) (.int .i64 (eyeN d k)) = soaL d L (k + 1) := by
  have h1 : (L.take 27).length = 27 := by simp [hl]
  have h2 : (ints64 ((List.range k).map (eyeN d))).length = k := by simp [ints64]
  have h3 : L.drop (27 + k) = L[27 + k]'(by omega) :: L.drop (27 + (k + 1)) := by rw [List.drop_eq_getElem_cons (by omega)]; rfl
  unfold soaL
  rw [List.append_assoc, List.set_append_right (h := by omega), h1, Nat.add_sub_cancel_left, List.set_append_right (h := by omega), h2, Nat.sub_self, h3, List.set_cons_zero]
  simp [ints64, List.range_succ, List.append_assoc]
theorem eye_good (d : List UInt8) (hd : d.length = 20) : ∀ k, k ≤ 5 → eyeK d k = (d.drop (4 * k), false)
  | 0, _ => rfl
  | k + 1, hk => by
    rw [eyeK, eye_good d hd k (by omega)]
    have h : ¬ (d.drop (4 * k)).length < 4 := by simp; omega
    simp [takeR, takeS, h, Nat.mul_succ]
    omega
theorem eyeN_good (d : List UInt8) (hd : d.length = 20) (k : Nat) (hk : k < 5) : eyeN d k = numB ((d.drop (4 * k)).take 4) := by
  unfold eyeN
  rw [eye_good d hd k (by omega)]
  have h : ¬ (d.length - 4 * k) < 4 := by omega
  simp [takeV, h]
theorem end_good (d : List UInt8) (hd : d.length = 20) : endV (eyeK d 5).1 (eyeK d 5).2 = 0 := by
  rw [eye_good d hd 5 (by omega)]
  have : d.drop 20 = [] := List.drop_of_length_le (by omega)
  simp [endV, this]
/-- What an Eye has left, if it was never short. -/
theorem eye_left (d : List UInt8) : ∀ k, (eyeK d k).2 = true ∨ ((eyeK d k).2 = false ∧ (eyeK d k).1.length + 4 * k = d.length)
  | 0 => .inr ⟨rfl, by simp [eyeK]⟩
  | k + 1 => by
    rcases eye_left d k with h | ⟨h, hl⟩
    · exact .inl (by simp [eyeK, takeS, h])
    · by_cases h4 : (eyeK d k).1.length < 4
      · exact .inl (by simp [eyeK, takeS, h4])
      · refine .inr ⟨by simp [eyeK, takeS, h, h4], ?_⟩
        simp [eyeK, takeR, h, h4]; omega
theorem end_bad (d : List UInt8) (hd : d.length ≠ 20) : endV (eyeK d 5).1 (eyeK d 5).2 ≠ 0 := by
  unfold endV
  rcases eye_left d 5 with h | ⟨h, hl⟩
  · simp [h]
  · have : (eyeK d 5).1 ≠ [] := by intro e; rw [e] at hl; simp at hl; omega
    simp [h, this]
theorem nums_good (s : List UInt8) (p : Nat) (h : p + 20 = s.length) : (List.range 5).map (eyeN (s.drop p)) = numsAt s p := by
  have hd : (s.drop p).length = 20 := by simp; omega
  have e : ∀ k, k < 5 → eyeN (s.drop p) k = numB ((s.drop (p + 4 * k)).take 4) := fun k hk => by rw [eyeN_good _ hd k hk, List.drop_drop]
  simp only [List.range, List.range.loop, List.map_cons, List.map_nil]
  rw [e 0 (by omega), e 1 (by omega), e 2 (by omega), e 3 (by omega), e 4 (by omega)]
  rfl
def SoaRet (g : Nat) (s : List UInt8) (a : Nat) (w : World) (e : Ending) (w' : World) : Prop :=
  match nameE s a with
  | .error x => x ≠ 0 ∧ e = .returned (.int .i64 x) ∧ w.grownBy w' (some g)
  | .ok (l, p) => match nameE s p with
    | .error x => x ≠ 0 ∧ e = .returned (.int .i64 x) ∧ w.grownBy w' (some g)
    | .ok (l', q) => if q + 20 = s.length then ∃ v v', e = .returned (.int .i64 0) ∧ Blk w' g 86 (rrC nilS v v' { RR.zero with tg := l, ml := l', nums := numsAt s q }) ∧ NmO w' v l ∧ NmO w' v' l' ∧ w.grownBy w' (some g)
      else e = .returned (.int .i64 5) ∧ w.grownBy w' (some g)
theorem soa_cells (v v' : Value) (d : List UInt8) (r : RR) (hr : r = { RR.zero with nums := (List.range 5).map (eyeN d) }) : ((soaL d rrZ 5).set 22 v).set 23 v' = rrC nilS v v' r := by subst hr; rfl
set_option maxHeartbeats 4000000 in
theorem getSOA_any (g : Nat) (s : List UInt8) (a : Nat) (w : World) (hb : Blk w g 86 rrZ) (ha : a ≤ s.length) (hs : s.length ≤ 4000000) :
    Calls Try.prog 96 #[.pointer (some ⟨g, 0, none⟩), .string (bs s), .int .i64 a] w (SoaRet g s a w) := by
  have hgl := hb.lt
  have hl : rrZ.length = 33 := rrZ_len
  rcases nameE_cases s a with ⟨l, p, h1, h2, h3, h4, h5⟩ | ⟨x, h1, h2, h3, h4⟩
  case inr =>
    have N := Lib.hid (rname_no h1 w hs)
    have FIN : Hid (∀ w', Below w.heap.size w w' → SoaRet g s a w (.returned (.int .i64 (if x = 1 then 5 else x))) w') := Lib.hid (fun w' hB => by unfold SoaRet; rw [h2]; exact ⟨h4.ne, rfl, grown_of_below hB _⟩)
    generalize (if x = 1 then 5 else x) = y at *
    have hy := h4.nz
    clear h1 h2 h3 hb
    go_enter Try.func96, Try.ntmps96
    go_wp2_with fail
    refine N.out.mono ?_
    rintro _ w1 ⟨v, rfl, hT, hB⟩
    go_wp2_with fail
    go_ret
    exact FIN.out _ hB
  have N := Lib.hid (rname_ok h1 w hs)
  rcases nameE_cases s p with ⟨l', q, k1, k2, k3, k4, k5⟩ | ⟨x, k1, k2, k3, k4⟩
  case inr =>
    have M := Lib.hid (fun w => rname_no k1 w hs)
    have FIN : Hid (∀ w', Below w.heap.size w w' → SoaRet g s a w (.returned (.int .i64 (if x = 1 then 5 else x))) w') := Lib.hid (fun w' hB => by unfold SoaRet; rw [h2]; simp only; rw [k2]; exact ⟨k4.ne, rfl, grown_of_below hB _⟩)
    generalize (if x = 1 then 5 else x) = y at *
    have hy := k4.nz
    clear h1 h2 h3 k1 k2 k3 hb
    go_enter Try.func96, Try.ntmps96
    go_wp2_with fail
    refine N.out.mono ?_
    rintro _ w1 ⟨v, rfl, hT, hB⟩
    go_wp2_with fail
    refine (M.out _).mono ?_
    rintro _ w2 ⟨v', rfl, hT', hB'⟩
    go_wp2_with fail
    go_ret
    exact FIN.out _ (below_then hB hB.size hB')
  have M := Lib.hid (fun w => rname_ok k1 w hs)
  have FB : Hid (q + 20 ≠ s.length → ∀ w', w.grownBy w' (some g) → SoaRet g s a w (.returned (.int .i64 5)) w') := Lib.hid (fun hq w' hB => by unfold SoaRet; rw [h2]; simp only; rw [k2]; simp only; rw [if_neg hq]; exact ⟨trivial, hB⟩)
  have FG : Hid (q + 20 = s.length → ∀ w' v v', Blk w' g 86 (((soaL (s.drop q) rrZ 5).set 22 v).set 23 v') → NmO w' v l → NmO w' v' l' → w.grownBy w' (some g) → SoaRet g s a w (.returned (.int .i64 0)) w') := Lib.hid (fun hq w' v v' hb n1 n2 hB => by
    unfold SoaRet; rw [h2]; simp only; rw [k2]; simp only; rw [if_pos hq]
    rw [soa_cells v v' _ _ rfl, nums_good s q hq] at hb
    exact ⟨v, v', trivial, hb, n1, n2, hB⟩)
  have hq' : (q : Int) ≤ s.length := by omega
  have hdl : (s.drop q).length ≤ maxLen := by simp [maxLen]; omega
  have hdq : (s.drop q).length = 20 ↔ q + 20 = s.length := by simp; omega
  clear h1 h2 h3 k1 k2 k3
  go_enter Try.func96, Try.ntmps96
  go_wp2_with fail
  refine N.out.mono ?_
  rintro _ w1 ⟨v, rfl, hT, hB⟩
  have B1 := hb.below hB hgl
  have X1 := NmO.mk' hT h4 h5
  obtain ⟨A, c, hv, -⟩ := X1.form
  clear N hT
  go_wp2_with fail
  refine (M.out _).mono ?_
  rintro _ w2 ⟨v', rfl, hT', hB'⟩
  have B2 := B1.below hB' B1.lt
  have X2 := NmO.mk' hT' k4 k5
  replace X1 := X1.stays (Stays.below hB')
  have HB2 := below_then hB hB.size hB'
  obtain ⟨A', c', hv', -⟩ := X2.form
  subst hv
  subst hv'
  clear M hT' hB hB' B1
  go_wp2_with fail
  refine (new_any (s.drop q) w2).mono ?_
  rintro _ w3 ⟨rfl, e3, b3⟩
  have B3 := B2.below b3 B2.lt
  replace X1 := X1.stays (Stays.below b3)
  replace X2 := X2.stays (Stays.below b3)
  have G3 : w.grownBy w3 (some g) := grown_of_below (below_then HB2 HB2.size b3) _
  have hgy : w.heap.size ≤ w2.heap.size := HB2.size
  have hgn : w2.heap.size ≠ g := by omega
  generalize w2.heap.size = gy at *
  generalize s.drop q = d at *
  clear B2 HB2 b3
  go_wp2_with fail
  go_loopw [36] (fun iv wr => ∃ k : Nat, k ≤ 5 ∧ iv = .int .i64 k ∧ EyeAt wr gy (eyeK d k).1 (eyeK d k).2 ∧ Blk wr g 86 (soaL d rrZ k) ∧ w.grownBy wr (some g) ∧ Stays w3 wr) (fun iv _ => 5 - (intOf iv).toNat)
  case atStart => exact ⟨0, by omega, rfl, e3, by rw [soaL_zero]; exact B3, G3, Stays.refl _⟩
  clear e3 B3 G3
  obtain ⟨k, hk, rfl, Er, Br, Gr, Sr⟩ := hrel
  by_cases hlt : k < 5
  case pos =>
    have hlt' : (k : Int) < 5 := by omega
    have hk0 : (0 : Int) ≤ k := by omega
    have NN := Lib.hid (fun w' (h : EyeAt w' gy (eyeK d k).1 (eyeK d k).2) => num_any gy _ _ 4 w' h (Nat.le_trans (eyeK_len d k) hdl))
    rw [show ((hw 4 : Nat) : Int) = 4 from rfl] at NN
    have SL := Lib.hid (soaL_step d rrZ k hl hlt)
    have Sl := soaL_len d rrZ k hl hk
    change Hid (∀ w', _ → Calls Try.prog _ _ w' (EyeRet (.int .i64 (eyeN d k)) gy (eyeK d (k + 1)).1 (eyeK d (k + 1)).2 w')) at NN
    generalize eyeN d k = nk at *
    go_wp2_with fail
    refine wp_region_held_drew (S := fun _ => True) (by kernel_rfl) trivial (fun hS => ?_)
    (refine held_val 0 (some 39) rfl rfl (by kernel_rfl) (by kernel_rfl) (by kernel_rfl) (fun _ _ _ h => h) (by kernel_rfl) (fun W hW => rfl) hS ?_; simp only [Act.put, List.setIfInBounds_toArray, List.set_cons_zero, List.set_cons_succ])
    (refine held_val 1 (some 40) rfl rfl (by kernel_rfl) (by kernel_rfl) (by kernel_rfl) (fun _ _ _ h => h) (by kernel_rfl) (fun W hW => rfl) hS ?_; simp only [Act.put, List.setIfInBounds_toArray, List.set_cons_zero, List.set_cons_succ])
    (refine held_val 2 (some 41) rfl rfl (by kernel_rfl) (by kernel_rfl) (by kernel_rfl) (fun _ _ _ h => h) (by kernel_rfl) (fun W hW => rfl) hS ?_; simp only [Act.put, List.setIfInBounds_toArray, List.set_cons_zero, List.set_cons_succ])
    (refine held_val 4 (some 43) rfl rfl (by kernel_rfl) (by kernel_rfl) (by kernel_rfl) (fun _ _ _ h => h) (by kernel_rfl) (fun W hW => rfl) hS ?_; simp only [Act.put, List.setIfInBounds_toArray, List.set_cons_zero, List.set_cons_succ])
    (refine held_val 5 (some 44) rfl rfl (by kernel_rfl) (by kernel_rfl) (by kernel_rfl) (fun _ _ _ h => h) (by kernel_rfl) (fun W hW => rfl) hS ?_; simp only [Act.put, List.setIfInBounds_toArray, List.set_cons_zero, List.set_cons_succ])
    refine ord_one 3 (by kernel_rfl) ?_
    refine opw_call 3 (some 42) 122 #[.pointer (some ⟨gy, 0, none⟩), .int .i64 4] rfl rfl (by kernel_rfl) (by go_simp) (NN.out _ Er.drew) ?_
    rintro _ w4 ⟨rfl, e4, g4⟩
    have B4 := (Br.drew).grown g4 (by simpa using hgn.symm)
    have G4 := grown_trans (grown_drew Gr) g4 (.inr (fun j hj => by injection hj with hj; omega))
    have S4 : Stays w3 w4 := Sr.trans ((Stays.below (Below.refl _ _).drew).trans (Stays.blk g4 Er.drew (by decide)))
    refine ⟨_, rfl, trivial, ?_⟩
    simp only [Act.put, List.setIfInBounds_toArray, List.set_cons_zero, List.set_cons_succ]
    refine held_val 6 (some 45) (v := .pointer (some ⟨g, 27 + k, none⟩)) rfl rfl (by kernel_rfl) (by kernel_rfl) (by kernel_rfl) (fun _ _ _ h => h) (by kernel_rfl) (fun W hW => by go_simp) hS ?_
    simp only [Act.put, List.setIfInBounds_toArray, List.set_cons_zero, List.set_cons_succ]
    refine ord_one 7 (by kernel_rfl) ?_
    refine opw_stC 7 3 (.tmp 45) (.tmp 42) rfl rfl rfl (by kernel_rfl) g (27 + k) rfl (.int .i64 nk) rfl B4 (by omega) intInfo1 rfl rfl ?_
    intro w5 B5 g5 _
    rw [SL.out] at B5
    have E5 := e4.grown g5 (by simpa using hgn)
    have G5 := grown_trans G4 g5 (.inl rfl)
    have S5 := S4.trans (Stays.blk g5 B4 (by decide))
    refine ⟨trivial, ?_⟩
    simp only [Act.put, List.setIfInBounds_toArray, List.set_cons_zero, List.set_cons_succ]
    refine wpAnyH_done (by kernel_rfl) ?_ _
    clear hS B4 G4 S4 e4 g4 g5 NN SL Sl Er Br Gr Sr
    go_wp2_with fail
    go_roundw
    case rel => exact ⟨k + 1, by omega, by go_num, E5, B5, G5, S5⟩
    case measure => simp [intOf]; omega
  obtain rfl : k = 5 := by omega
  replace X1 := X1.stays Sr
  replace X2 := X2.stays Sr
  clear hlt hk Sr
  have EN := Lib.hid (end_any gy _ _ wr Er)
  by_cases hq : q + 20 = s.length
  · rw [end_good d (hdq.2 hq)] at EN
    have Sl := soaL_len d rrZ 5 hl (by omega)
    go_wp2_with fail
    refine EN.out.mono ?_
    rintro _ w6 ⟨rfl, rfl⟩
    go_wp2_with (refine at_op (.store 24 (.tmp 55) (.tmp 52)) rfl ?_; go_must (refine wpList_stC rfl 24 (.tmp 55) (.tmp 52) rfl g 22 rfl _ rfl Br (by omega) nameInfo1 rfl rfl ?_))
    intro w7 B7 g7 _
    have Y1 := X1.stays (Stays.blk g7 Br (by decide))
    have Y2 := X2.stays (Stays.blk g7 Br (by decide))
    have G7 := grown_trans Gr g7 (.inl rfl)
    go_wp2_with (refine at_op (.store 24 (.tmp 57) (.tmp 53)) rfl ?_; go_must (refine wpList_stC rfl 24 (.tmp 57) (.tmp 53) rfl g 23 rfl _ rfl B7 (by simp only [List.length_set]; omega) nameInfo1 rfl rfl ?_))
    intro w8 B8 g8 _
    have Z1 := Y1.stays (Stays.blk g8 B7 (by decide))
    have Z2 := Y2.stays (Stays.blk g8 B7 (by decide))
    have G8 := grown_trans G7 g8 (.inl rfl)
    go_wp2_with fail
    go_ret
    exact FG.out hq _ _ _ B8 Z1 Z2 G8
  · have hne := end_bad d (fun h => hq (hdq.1 h))
    generalize endV (eyeK d 5).1 (eyeK d 5).2 = ev at *
    have hev : (ev != 0) = true := by simpa using hne
    go_wp2_with fail
    refine EN.out.mono ?_
    rintro _ w6 ⟨rfl, rfl⟩
    go_wp2_with fail
    go_ret
    exact FB.out hq _ Gr
end Go.Proofs.Ytlmgdogblbigpaa
