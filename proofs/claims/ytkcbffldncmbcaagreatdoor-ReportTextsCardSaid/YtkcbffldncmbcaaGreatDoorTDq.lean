/-
  Layer 47: quoted texts, of both.
-/
import Derived.Test.YtkcbffldncmbcaaGreatDoorTy11q
namespace Go.Proofs.YtkcbffldncmbcaaGreatDoor
open _root_.Go.Proofs.Tryz
open Go.RowKit
set_option maxRecDepth 100000
set_option linter.unusedVariables false
set_option linter.unusedSimpArgs false
theorem quoB_yes {c : UInt8} (h : 33 ≤ c.toNat ∧ c.toNat ≤ 126 ∧ c ≠ 92) : quoB c = [c] := by unfold quoB; rw [if_pos h]
theorem quoB_no {c : UInt8} (h : ¬ (33 ≤ c.toNat ∧ c.toNat ≤ 126 ∧ c ≠ 92)) : quoB c = [92, UInt8.ofNat (48 + c.toNat / 100), UInt8.ofNat (48 + c.toNat / 10 % 10), UInt8.ofNat (48 + c.toNat % 10)] := by unfold quoB; rw [if_neg h]
theorem n92_of {c : UInt8} (h : c.toNat ≠ 92) : c ≠ 92 := fun e => h (by rw [e]; rfl)
theorem quo_ways (c : UInt8) : (33 ≤ c.toNat ∧ c.toNat ≤ 126 ∧ c.toNat ≠ 92) ∨ c.toNat < 33 ∨ 126 < c.toNat ∨ c.toNat = 92 := by omega
set_option maxHeartbeats 2000000 in
theorem rquoted_any (l : List UInt8) (hl : l.length ≤ 100000) (w : World) : Calls prog 49 #[.string (bs l)] w (Ret (.string (bs (quoL l))) w) := by
 obtain ⟨R, hR⟩ : ∃ R, Hid (quoL l = R) := ⟨_, Hh rfl⟩
 rw [hR.out]
 have QL := Hh quoL_len
 have DG := Hh (fun (k : Nat) (h : k ≤ 1000000) W => rdigits_any k h W)
 go_enter func49, ntmps49
 go_wp2_with fail
 go_loopw [3, 4] (fun v iv wr => ∃ k : Nat, k ≤ l.length ∧ iv = .int .i64 k ∧ v = .string (bs (quoL (l.take k))) ∧ wr = w) (fun _ iv _ => l.length - (intOf iv).toNat)
 case atStart => exact ⟨0, Nat.zero_le _, rfl, rfl, rfl⟩
 obtain ⟨k, hk, rfl, rfl, hwr⟩ := hrel
 subst hwr
 have hPl := QL.out (l.take k)
 rw [List.length_take_of_le hk] at hPl
 by_cases hlt : k < l.length
 case pos =>
  have hlt' : (k : Int) < l.length := by omega
  have hSl : (l.take (k + 1)).drop k = [l[k]] := by rw [List.drop_take, show k + 1 - k = 1 by omega]; exact sl_one hlt
  have HX : Hid (quoL (l.take (k + 1)) = quoL (l.take k) ++ quoB l[k]) := Hh (quoL_next hlt)
  obtain ⟨c, hc⟩ : ∃ c, Hid (l[k] = c) := ⟨_, Hh rfl⟩
  rw [hc.out] at HX hSl
  have hgc : ∀ h, l[k]'h = c := fun _ => hc.out
  have hk8 := c.toNat_lt
  generalize quoL (l.take k) = P at *
  clear QL hR
  rcases quo_ways c with ⟨h1, h2, h3⟩ | hw
  case inl =>
   rw [quoB_yes ⟨h1, h2, n92_of h3⟩, ← hSl] at HX
   have p1 : (33 : Int) ≤ c.toNat := by omega
   have p2 : (c.toNat : Int) ≤ 126 := by omega
   have p3 : ((c.toNat : Int) != 92) = true := by simp; omega
   clear DG hSl h1 h2 h3
   go_wp2_with fail
   exact ⟨⟨k + 1, by omega, by go_num, by rw [HX.out]; try simp, trivial⟩, by simp [intOf]; omega⟩
  case inr =>
   rw [quoB_no (by rintro ⟨q1, q2, q3⟩; rcases hw with h | h | h; omega; omega; exact q3 (UInt8.toNat_inj.1 (by rw [h]; rfl)))] at HX
   have D1 : Hid (∀ W, Calls prog 31 #[.int .i64 ((c.toNat : Int) / 100)] W (Ret (.string (bs [UInt8.ofNat (48 + c.toNat / 100)])) W)) := Hh (fun W => by have := DG.out (c.toNat / 100) (by omega) W; rw [rdig10 _ (by omega)] at this; exact this)
   have D2 : Hid (∀ W, Calls prog 31 #[.int .i64 ((c.toNat : Int) / 10 % 10)] W (Ret (.string (bs [UInt8.ofNat (48 + c.toNat / 10 % 10)])) W)) := Hh (fun W => by have := DG.out (c.toNat / 10 % 10) (by omega) W; rw [rdig10 _ (by omega)] at this; exact this)
   have D3 : Hid (∀ W, Calls prog 31 #[.int .i64 ((c.toNat : Int) % 10)] W (Ret (.string (bs [UInt8.ofNat (48 + c.toNat % 10)])) W)) := Hh (fun W => by have := DG.out (c.toNat % 10) (by omega) W; rw [rdig10 _ (by omega)] at this; exact this)
   generalize UInt8.ofNat (48 + c.toNat / 100) = x1 at *
   generalize UInt8.ofNat (48 + c.toNat / 10 % 10) = x2 at *
   generalize UInt8.ofNat (48 + c.toNat % 10) = x3 at *
   clear DG hSl
   rcases hw with h | h | h
   ·
    have p1 : ¬ (33 : Int) ≤ c.toNat := by omega
    clear h
    go_wp2_with fail
    refine (D1.out _).mono ?_
    rintro _ _ ⟨rfl, rfl⟩
    go_wp2_with fail
    refine (D2.out _).mono ?_
    rintro _ _ ⟨rfl, rfl⟩
    go_wp2_with fail
    refine (D3.out _).mono ?_
    rintro _ _ ⟨rfl, rfl⟩
    go_wp2_with fail
    exact ⟨⟨k + 1, by omega, by go_num, by rw [HX.out]; try simp, trivial⟩, by simp [intOf]; omega⟩
   ·
    have p1 : (33 : Int) ≤ c.toNat := by omega
    have p2 : ¬ (c.toNat : Int) ≤ 126 := by omega
    clear h
    go_wp2_with fail
    refine (D1.out _).mono ?_
    rintro _ _ ⟨rfl, rfl⟩
    go_wp2_with fail
    refine (D2.out _).mono ?_
    rintro _ _ ⟨rfl, rfl⟩
    go_wp2_with fail
    refine (D3.out _).mono ?_
    rintro _ _ ⟨rfl, rfl⟩
    go_wp2_with fail
    exact ⟨⟨k + 1, by omega, by go_num, by rw [HX.out]; try simp, trivial⟩, by simp [intOf]; omega⟩
   ·
    have p1 : (33 : Int) ≤ c.toNat := by omega
    have p2 : (c.toNat : Int) ≤ 126 := by omega
    have p3 : ((c.toNat : Int) != 92) = false := by simp; omega
    clear h
    go_wp2_with fail
    refine (D1.out _).mono ?_
    rintro _ _ ⟨rfl, rfl⟩
    go_wp2_with fail
    refine (D2.out _).mono ?_
    rintro _ _ ⟨rfl, rfl⟩
    go_wp2_with fail
    refine (D3.out _).mono ?_
    rintro _ _ ⟨rfl, rfl⟩
    go_wp2_with fail
    exact ⟨⟨k + 1, by omega, by go_num, by rw [HX.out]; try simp, trivial⟩, by simp [intOf]; omega⟩
 obtain rfl : k = l.length := by omega
 have hlt' : ¬ (l.length : Int) < l.length := by omega
 rw [List.take_of_length_le (Nat.le_refl _), hR.out]
 clear hR QL hPl DG
 go_wp2_with fail
 go_ret
 exact ⟨rfl, rfl⟩
theorem new_four (w : World) (a b c d : Value) (t : TypeId) (k : Nat) (hk : k = w.heap.size) : ∀ j x, [a, b, c, d][j]? = some x → (w.alloc (.cells #[a, b, c, d] t)).cell? ((⟨k, 0, none⟩ : Addr).add j) = some x := by
 subst hk
 intro j x hx
 rcases j with _ | _ | _ | _ | j
 ·
  simp at hx; subst hx; simp [Addr.add, go_sem]
 ·
  simp at hx; subst hx; simp [Addr.add, go_sem]
 ·
  simp at hx; subst hx; simp [Addr.add, go_sem]
 ·
  simp at hx; subst hx; simp [Addr.add, go_sem]
 ·
  simp at hx
theorem four_cells {a b c d : Value} (h1 : a.oneCell' = true) (h2 : b.oneCell' = true) (h3 : c.oneCell' = true) (h4 : d.oneCell' = true) : ∀ x ∈ [a, b, c, d], x.oneCell' = true := by simp [h1, h2, h3, h4]
theorem dig48 {n : Nat} (h : n < 10) : IntKind.u8.wrap (48 + (n : Int)) = ((UInt8.ofNat (48 + n)).toNat : Int) := by
 rw [IntKind.wrap_u8, UInt8.toNat_ofNat']
 omega
set_option maxHeartbeats 2000000 in
theorem squoted_any (l : List UInt8) (hl : l.length ≤ 100000) (w : World) : Calls prog 22 #[.string (bs l)] w (RetB (.string (bs (quoL l))) w) := by
 obtain ⟨R, hR⟩ : ∃ R, Hid (quoL l = R) := ⟨_, Hh rfl⟩
 rw [hR.out]
 have QL := Hh quoL_len
 obtain ⟨W1, hmk, ho1, hb1⟩ := mk0 (t := 55) (e := 5) underlying55 byteInfo w.heap.size l.length (by omega) (by simp only [maxLen]; omega) w (Nat.le_refl _)
 go_enter func22, ntmps22
 go_wp2_with fail
 clear hmk
 go_loopw [3, 11] (fun v iv wr => ∃ k : Nat, k ≤ l.length ∧ iv = .int .i64 k ∧ wr.ownsRow w.heap.size 5 1 v (quoL (l.take k)).length (octs (quoL (l.take k))) ∧ Below w.heap.size w wr) (fun _ iv _ => l.length - (intOf iv).toNat)
 case atStart => exact ⟨0, Nat.zero_le _, rfl, ho1, hb1⟩
 clear ho1 hb1
 obtain ⟨k, hk, rfl, hb, hB⟩ := hrel
 obtain ⟨A', c', hv⟩ := own_form hb
 subst hv
 have hPl := QL.out (l.take k)
 rw [List.length_take_of_le hk] at hPl
 by_cases hlt : k < l.length
 case pos =>
  have hlt' : (k : Int) < l.length := by omega
  have HX : Hid (quoL (l.take (k + 1)) = quoL (l.take k) ++ quoB l[k]) := Hh (quoL_next hlt)
  obtain ⟨c, hc⟩ : ∃ c, Hid (l[k] = c) := ⟨_, Hh rfl⟩
  rw [hc.out] at HX
  have hgc : ∀ h, l[k]'h = c := fun _ => hc.out
  have hk8 := c.toNat_lt
  generalize quoL (l.take k) = P at *
  clear QL hR
  rcases quo_ways c with ⟨h1, h2, h3⟩ | hw
  case inl =>
   rw [quoB_yes ⟨h1, h2, n92_of h3⟩] at HX
   have p1 : (33 : Int) ≤ c.toNat := by omega
   have p2 : (c.toNat : Int) ≤ 126 := by omega
   have p3 : ((c.toNat : Int) != 92) = true := by simp; omega
   clear h1 h2 h3
   go_wp2_with (at_builtin; go_must (refine wpList_appB _ rfl (.tmp 27) (.tmp 29) 55 rfl 5 (.int .u8 0) 1 1 underlying55 byteInfo rfl (by decide) w.heap.size _ P.length _ rfl (World.ownsRow.alloc hb _) (by have := hB.size; simp; omega) ⟨wr.heap.size, 0, none⟩ 1 1 [_] rfl rfl (new_one _ _ _ _ rfl) (one_cell1 rfl) (by decide) (by simp only [maxLen]; omega) (by omega) ?_))
   intro g2 cap2 w2 hb2 hgr2 hlt2
   have hB2 := below_own (hB.alloc hB.size _) (by have := hB.size; simp; omega) (hb.alloc _) hgr2
   have hb3 : w2.ownsRow w.heap.size 5 1 (.slice (some ⟨g2, 0, none⟩) (P.length + 1) cap2) (quoL (l.take (k + 1))).length (octs (quoL (l.take (k + 1)))) := by rw [HX.out, octs_app, List.length_append]; exact hb2
   clear hb hb2 hgr2 hB
   go_wp2_with fail
   go_roundw
   case rel => exact ⟨k + 1, by omega, by go_num, hb3, hB2⟩
   case measure => simp [intOf]; omega
  case inr =>
   rw [quoB_no (by rintro ⟨q1, q2, q3⟩; rcases hw with h | h | h; omega; omega; exact q3 (UInt8.toNat_inj.1 (by rw [h]; rfl)))] at HX
   have D1 : IntKind.u8.wrap (48 + (c.toNat : Int) / 100) = ((UInt8.ofNat (48 + c.toNat / 100)).toNat : Int) := by have := dig48 (n := c.toNat / 100) (by omega); exact this
   have D2 : IntKind.u8.wrap (48 + (c.toNat : Int) / 10 % 10) = ((UInt8.ofNat (48 + c.toNat / 10 % 10)).toNat : Int) := by have := dig48 (n := c.toNat / 10 % 10) (by omega); exact this
   have D3 : IntKind.u8.wrap (48 + (c.toNat : Int) % 10) = ((UInt8.ofNat (48 + c.toNat % 10)).toNat : Int) := by have := dig48 (n := c.toNat % 10) (by omega); exact this
   generalize UInt8.ofNat (48 + c.toNat / 100) = x1 at *
   generalize UInt8.ofNat (48 + c.toNat / 10 % 10) = x2 at *
   generalize UInt8.ofNat (48 + c.toNat % 10) = x3 at *
   rcases hw with h | h | h
   ·
    have p1 : ¬ (33 : Int) ≤ c.toNat := by omega
    clear h
    go_wp2_with (at_builtin; go_must (refine wpList_appB _ rfl (.tmp 31) (.tmp 42) 55 rfl 5 (.int .u8 0) 1 1 underlying55 byteInfo rfl (by decide) w.heap.size _ P.length _ rfl (World.ownsRow.alloc hb _) (by have := hB.size; simp; omega) ⟨wr.heap.size, 0, none⟩ 4 4 [_, _, _, _] rfl rfl (new_four _ _ _ _ _ _ _ rfl) (four_cells rfl rfl rfl rfl) (by decide) (by simp only [maxLen]; omega) (by omega) ?_))
    intro g2 cap2 w2 hb2 hgr2 hlt2
    have hB2 := below_own (hB.alloc hB.size _) (by have := hB.size; simp; omega) (hb.alloc _) hgr2
    have hb3 : w2.ownsRow w.heap.size 5 1 (.slice (some ⟨g2, 0, none⟩) (P.length + 4) cap2) (quoL (l.take (k + 1))).length (octs (quoL (l.take (k + 1)))) := by rw [HX.out, octs_app, List.length_append]; exact hb2
    clear hb hb2 hgr2 hB
    go_wp2_with fail
    go_roundw
    case rel => exact ⟨k + 1, by omega, by go_num, hb3, hB2⟩
    case measure => simp [intOf]; omega
   ·
    have p1 : (33 : Int) ≤ c.toNat := by omega
    have p2 : ¬ (c.toNat : Int) ≤ 126 := by omega
    clear h
    go_wp2_with (at_builtin; go_must (refine wpList_appB _ rfl (.tmp 31) (.tmp 42) 55 rfl 5 (.int .u8 0) 1 1 underlying55 byteInfo rfl (by decide) w.heap.size _ P.length _ rfl (World.ownsRow.alloc hb _) (by have := hB.size; simp; omega) ⟨wr.heap.size, 0, none⟩ 4 4 [_, _, _, _] rfl rfl (new_four _ _ _ _ _ _ _ rfl) (four_cells rfl rfl rfl rfl) (by decide) (by simp only [maxLen]; omega) (by omega) ?_))
    intro g2 cap2 w2 hb2 hgr2 hlt2
    have hB2 := below_own (hB.alloc hB.size _) (by have := hB.size; simp; omega) (hb.alloc _) hgr2
    have hb3 : w2.ownsRow w.heap.size 5 1 (.slice (some ⟨g2, 0, none⟩) (P.length + 4) cap2) (quoL (l.take (k + 1))).length (octs (quoL (l.take (k + 1)))) := by rw [HX.out, octs_app, List.length_append]; exact hb2
    clear hb hb2 hgr2 hB
    go_wp2_with fail
    go_roundw
    case rel => exact ⟨k + 1, by omega, by go_num, hb3, hB2⟩
    case measure => simp [intOf]; omega
   ·
    have p1 : (33 : Int) ≤ c.toNat := by omega
    have p2 : (c.toNat : Int) ≤ 126 := by omega
    have p3 : ((c.toNat : Int) != 92) = false := by simp; omega
    clear h
    go_wp2_with (at_builtin; go_must (refine wpList_appB _ rfl (.tmp 31) (.tmp 42) 55 rfl 5 (.int .u8 0) 1 1 underlying55 byteInfo rfl (by decide) w.heap.size _ P.length _ rfl (World.ownsRow.alloc hb _) (by have := hB.size; simp; omega) ⟨wr.heap.size, 0, none⟩ 4 4 [_, _, _, _] rfl rfl (new_four _ _ _ _ _ _ _ rfl) (four_cells rfl rfl rfl rfl) (by decide) (by simp only [maxLen]; omega) (by omega) ?_))
    intro g2 cap2 w2 hb2 hgr2 hlt2
    have hB2 := below_own (hB.alloc hB.size _) (by have := hB.size; simp; omega) (hb.alloc _) hgr2
    have hb3 : w2.ownsRow w.heap.size 5 1 (.slice (some ⟨g2, 0, none⟩) (P.length + 4) cap2) (quoL (l.take (k + 1))).length (octs (quoL (l.take (k + 1)))) := by rw [HX.out, octs_app, List.length_append]; exact hb2
    clear hb hb2 hgr2 hB
    go_wp2_with fail
    go_roundw
    case rel => exact ⟨k + 1, by omega, by go_num, hb3, hB2⟩
    case measure => simp [intOf]; omega
 obtain rfl : k = l.length := by omega
 have hlt' : ¬ (l.length : Int) < l.length := by omega
 rw [List.take_of_length_le (Nat.le_refl _), hR.out] at hb ⊢
 have hcv := own_text hb
 clear hb hR QL hPl
 go_wp2_with fail
 go_ret
 exact RetB.mk rfl hB
def AddRet (w0 : World) (q : List UInt8) (e : Ending) (w' : World) : Prop :=
 ∃ A c, e = .returned (.slice A q.length c) ∧ w'.ownsRow w0.heap.size 5 1 (.slice A q.length c) q.length (octs q) ∧ Below w0.heap.size w0 w'
theorem esc_ways (c : UInt8) : (c.toNat = 46 ∨ c.toNat ≠ 46 ∧ c.toNat = 92) ∨ (c.toNat ≠ 46 ∧ c.toNat ≠ 92 ∧ 33 ≤ c.toNat ∧ c.toNat ≤ 126) ∨ (c.toNat ≠ 46 ∧ c.toNat ≠ 92 ∧ (c.toNat < 33 ∨ 33 ≤ c.toNat ∧ 126 < c.toNat)) := by omega
theorem u8of {c : UInt8} {n : Nat} (d : UInt8) (hd : d.toNat = n) (h : c.toNat = n) : c = d := UInt8.toNat_inj.1 (by rw [h, hd])
theorem esc_two {c : UInt8} (h : c.toNat = 46 ∨ c.toNat ≠ 46 ∧ c.toNat = 92) : escB c = [92, c] := by
 unfold escB
 rw [if_pos]
 rcases h with h | ⟨_, h⟩
 ·
  exact .inl (u8of 46 rfl h)
 ·
  exact .inr (u8of 92 rfl h)
theorem esc_or {c : UInt8} (h1 : c.toNat ≠ 46) (h2 : c.toNat ≠ 92) : ¬ (c = 46 ∨ c = 92) := by
 rintro (h | h)
 ·
  exact h1 (by rw [h]; rfl)
 ·
  exact h2 (by rw [h]; rfl)
theorem esc_one {c : UInt8} (h1 : c.toNat ≠ 46) (h2 : c.toNat ≠ 92) (h : 33 ≤ c.toNat ∧ c.toNat ≤ 126) : escB c = [c] := by unfold escB; rw [if_neg (esc_or h1 h2), if_pos h]
theorem esc_four {c : UInt8} (h1 : c.toNat ≠ 46) (h2 : c.toNat ≠ 92) (h : ¬ (33 ≤ c.toNat ∧ c.toNat ≤ 126)) : escB c = [92, UInt8.ofNat (48 + c.toNat / 100), UInt8.ofNat (48 + c.toNat / 10 % 10), UInt8.ofNat (48 + c.toNat % 10)] := by unfold escB; rw [if_neg (esc_or h1 h2), if_neg h]
set_option maxHeartbeats 2000000 in
theorem add_any (w0 : World) (v : Value) (q l : List UInt8) (hq : q.length ≤ 100000) (hl : l.length ≤ 100000) (w : World) (hv : w.ownsRow w0.heap.size 5 1 v q.length (octs q)) (hw : Below w0.heap.size w0 w) :
  Calls prog 47 #[v, .string (bs l)] w (AddRet w0 (q ++ labB l)) := by
 have QL := Hh (fun l => (labB_len l).2)
 go_enter func47, ntmps47
 go_wp2_with fail
 go_loopw [0, 9] (fun v iv wr => ∃ k : Nat, k ≤ l.length ∧ iv = .int .i64 k ∧ wr.ownsRow w0.heap.size 5 1 v (q ++ labB (l.take k)).length (octs (q ++ labB (l.take k))) ∧ Below w0.heap.size w0 wr) (fun _ iv _ => l.length - (intOf iv).toNat)
 case atStart => exact ⟨0, Nat.zero_le _, rfl, by rw [List.take_zero, show labB [] = [] from rfl, List.append_nil]; exact hv, hw⟩
 clear hv hw
 obtain ⟨k, hk, rfl, hb, hB⟩ := hrel
 obtain ⟨A', c', hv⟩ := own_form hb
 subst hv
 have hPl : (q ++ labB (l.take k)).length ≤ 500000 := by
  have := QL.out (l.take k)
  rw [List.length_take_of_le hk] at this
  rw [List.length_append]
  omega
 by_cases hlt : k < l.length
 case pos =>
  have hlt' : (k : Int) < l.length := by omega
  have HX : Hid (q ++ labB (l.take (k + 1)) = q ++ labB (l.take k) ++ escB l[k]) := Hh (by rw [labB_next hlt, List.append_assoc])
  obtain ⟨c, hc⟩ : ∃ c, Hid (l[k] = c) := ⟨_, Hh rfl⟩
  rw [hc.out] at HX
  have hgc : ∀ h, l[k]'h = c := fun _ => hc.out
  have hk8 := c.toNat_lt
  generalize q ++ labB (l.take k) = P at *
  clear QL
  rcases esc_ways c with h | ⟨h1, h2, h3, h4⟩ | ⟨h1, h2, h⟩
  ·
   rw [esc_two h] at HX
   rcases h with h | ⟨h1, h⟩
   ·
    have p1 : (c.toNat : Int) = 46 := by omega
    rw [u8of 46 rfl h] at HX
    clear h
    go_wp2_with (at_builtin; go_must (refine wpList_appB _ rfl (.tmp 26) (.tmp 28) 55 rfl 5 (.int .u8 0) 1 1 underlying55 byteInfo rfl (by decide) w0.heap.size _ P.length _ rfl (World.ownsRow.alloc hb _) (by have := hB.size; simp; omega) ⟨wr.heap.size, 0, none⟩ 2 2 [_, _] rfl rfl (new_two _ _ _ _ _ rfl) (two_cells rfl rfl) (by decide) (by simp only [maxLen]; omega) (by omega) ?_))
    intro g2 cap2 w2 hb2 hgr2 hlt2
    have hB2 := below_own (hB.alloc hB.size _) (by have := hB.size; simp; omega) (hb.alloc _) hgr2
    have hb3 : w2.ownsRow w0.heap.size 5 1 (.slice (some ⟨g2, 0, none⟩) (P.length + 2) cap2) (q ++ labB (l.take (k + 1))).length (octs (q ++ labB (l.take (k + 1)))) := by rw [HX.out, octs_app, List.length_append]; exact hb2
    clear hb hb2 hgr2 hB
    go_wp2_with fail
    go_roundw
    case rel => exact ⟨k + 1, by omega, by go_num, hb3, hB2⟩
    case measure => simp [intOf]; omega
   ·
    have p1 : ((c.toNat : Int) == 46) = false := by simp; omega
    have p2 : (c.toNat : Int) = 92 := by omega
    rw [u8of 92 rfl h] at HX
    clear h h1
    go_wp2_with (at_builtin; go_must (refine wpList_appB _ rfl (.tmp 26) (.tmp 28) 55 rfl 5 (.int .u8 0) 1 1 underlying55 byteInfo rfl (by decide) w0.heap.size _ P.length _ rfl (World.ownsRow.alloc hb _) (by have := hB.size; simp; omega) ⟨wr.heap.size, 0, none⟩ 2 2 [_, _] rfl rfl (new_two _ _ _ _ _ rfl) (two_cells rfl rfl) (by decide) (by simp only [maxLen]; omega) (by omega) ?_))
    intro g2 cap2 w2 hb2 hgr2 hlt2
    have hB2 := below_own (hB.alloc hB.size _) (by have := hB.size; simp; omega) (hb.alloc _) hgr2
    have hb3 : w2.ownsRow w0.heap.size 5 1 (.slice (some ⟨g2, 0, none⟩) (P.length + 2) cap2) (q ++ labB (l.take (k + 1))).length (octs (q ++ labB (l.take (k + 1)))) := by rw [HX.out, octs_app, List.length_append]; exact hb2
    clear hb hb2 hgr2 hB
    go_wp2_with fail
    go_roundw
    case rel => exact ⟨k + 1, by omega, by go_num, hb3, hB2⟩
    case measure => simp [intOf]; omega
  ·
   rw [esc_one h1 h2 ⟨h3, h4⟩] at HX
   have p1 : ((c.toNat : Int) == 46) = false := by simp; omega
   have p2 : ((c.toNat : Int) == 92) = false := by simp; omega
   have p3 : ¬ (c.toNat : Int) < 33 := by omega
   have p4 : ¬ (126 : Int) < (c.toNat : Int) := by omega
   clear h1 h2 h3 h4
   go_wp2_with (at_builtin; go_must (refine wpList_appB _ rfl (.tmp 15) (.tmp 17) 55 rfl 5 (.int .u8 0) 1 1 underlying55 byteInfo rfl (by decide) w0.heap.size _ P.length _ rfl (World.ownsRow.alloc hb _) (by have := hB.size; simp; omega) ⟨wr.heap.size, 0, none⟩ 1 1 [_] rfl rfl (new_one _ _ _ _ rfl) (one_cell1 rfl) (by decide) (by simp only [maxLen]; omega) (by omega) ?_))
   intro g2 cap2 w2 hb2 hgr2 hlt2
   have hB2 := below_own (hB.alloc hB.size _) (by have := hB.size; simp; omega) (hb.alloc _) hgr2
   have hb3 : w2.ownsRow w0.heap.size 5 1 (.slice (some ⟨g2, 0, none⟩) (P.length + 1) cap2) (q ++ labB (l.take (k + 1))).length (octs (q ++ labB (l.take (k + 1)))) := by rw [HX.out, octs_app, List.length_append]; exact hb2
   clear hb hb2 hgr2 hB
   go_wp2_with fail
   go_roundw
   case rel => exact ⟨k + 1, by omega, by go_num, hb3, hB2⟩
   case measure => simp [intOf]; omega
  ·
   rw [esc_four h1 h2 (by omega)] at HX
   have p1 : ((c.toNat : Int) == 46) = false := by simp; omega
   have p2 : ((c.toNat : Int) == 92) = false := by simp; omega
   have D1 : IntKind.u8.wrap (48 + (c.toNat : Int) / 100) = ((UInt8.ofNat (48 + c.toNat / 100)).toNat : Int) := by have := dig48 (n := c.toNat / 100) (by omega); exact this
   have D2 : IntKind.u8.wrap (48 + (c.toNat : Int) / 10 % 10) = ((UInt8.ofNat (48 + c.toNat / 10 % 10)).toNat : Int) := by have := dig48 (n := c.toNat / 10 % 10) (by omega); exact this
   have D3 : IntKind.u8.wrap (48 + (c.toNat : Int) % 10) = ((UInt8.ofNat (48 + c.toNat % 10)).toNat : Int) := by have := dig48 (n := c.toNat % 10) (by omega); exact this
   generalize UInt8.ofNat (48 + c.toNat / 100) = x1 at *
   generalize UInt8.ofNat (48 + c.toNat / 10 % 10) = x2 at *
   generalize UInt8.ofNat (48 + c.toNat % 10) = x3 at *
   clear h1 h2
   rcases h with h | ⟨h3, h4⟩
   ·
    have p3 : (c.toNat : Int) < 33 := by omega
    clear h
    go_wp2_with (at_builtin; go_must (refine wpList_appB _ rfl (.tmp 37) (.tmp 48) 55 rfl 5 (.int .u8 0) 1 1 underlying55 byteInfo rfl (by decide) w0.heap.size _ P.length _ rfl (World.ownsRow.alloc hb _) (by have := hB.size; simp; omega) ⟨wr.heap.size, 0, none⟩ 4 4 [_, _, _, _] rfl rfl (new_four _ _ _ _ _ _ _ rfl) (four_cells rfl rfl rfl rfl) (by decide) (by simp only [maxLen]; omega) (by omega) ?_))
    intro g2 cap2 w2 hb2 hgr2 hlt2
    have hB2 := below_own (hB.alloc hB.size _) (by have := hB.size; simp; omega) (hb.alloc _) hgr2
    have hb3 : w2.ownsRow w0.heap.size 5 1 (.slice (some ⟨g2, 0, none⟩) (P.length + 4) cap2) (q ++ labB (l.take (k + 1))).length (octs (q ++ labB (l.take (k + 1)))) := by rw [HX.out, octs_app, List.length_append]; exact hb2
    clear hb hb2 hgr2 hB
    go_wp2_with fail
    go_roundw
    case rel => exact ⟨k + 1, by omega, by go_num, hb3, hB2⟩
    case measure => simp [intOf]; omega
   ·
    have p3 : ¬ (c.toNat : Int) < 33 := by omega
    have p4 : (126 : Int) < (c.toNat : Int) := by omega
    clear h3 h4
    go_wp2_with (at_builtin; go_must (refine wpList_appB _ rfl (.tmp 37) (.tmp 48) 55 rfl 5 (.int .u8 0) 1 1 underlying55 byteInfo rfl (by decide) w0.heap.size _ P.length _ rfl (World.ownsRow.alloc hb _) (by have := hB.size; simp; omega) ⟨wr.heap.size, 0, none⟩ 4 4 [_, _, _, _] rfl rfl (new_four _ _ _ _ _ _ _ rfl) (four_cells rfl rfl rfl rfl) (by decide) (by simp only [maxLen]; omega) (by omega) ?_))
    intro g2 cap2 w2 hb2 hgr2 hlt2
    have hB2 := below_own (hB.alloc hB.size _) (by have := hB.size; simp; omega) (hb.alloc _) hgr2
    have hb3 : w2.ownsRow w0.heap.size 5 1 (.slice (some ⟨g2, 0, none⟩) (P.length + 4) cap2) (q ++ labB (l.take (k + 1))).length (octs (q ++ labB (l.take (k + 1)))) := by rw [HX.out, octs_app, List.length_append]; exact hb2
    clear hb hb2 hgr2 hB
    go_wp2_with fail
    go_roundw
    case rel => exact ⟨k + 1, by omega, by go_num, hb3, hB2⟩
    case measure => simp [intOf]; omega
 obtain rfl : k = l.length := by omega
 have hlt' : ¬ (l.length : Int) < l.length := by omega
 rw [List.take_of_length_le (Nat.le_refl _)] at hb hPl ⊢
 have HV := Hh hb
 clear hb QL hPl
 go_wp2_with fail
 go_ret
 exact ⟨_, _, by rw [List.length_append]; rfl, HV.out, hB⟩
def dotL (n : List (List UInt8)) : List UInt8 := n.flatMap (fun l => labB l ++ [46])
theorem dotL_next {n : List (List UInt8)} {i : Nat} (h : i < n.length) : dotL (n.take (i + 1)) = dotL (n.take i) ++ labB n[i] ++ [46] := by
 rw [List.take_succ_eq_append_getElem h]
 unfold dotL
 rw [List.flatMap_append]
 simp
theorem dotL_len : ∀ n : List (List UInt8), (dotL n).length ≤ 4 * lsum n := by
 intro n
 induction n with
 | nil => simp [dotL]
 | cons l n ih =>
  have e : dotL (l :: n) = (labB l ++ [46]) ++ dotL n := rfl
  have := (labB_len l).2
  have e2 : lsum (l :: n) = l.length + 1 + lsum n := rfl
  rw [e, List.length_append, List.length_append, e2, List.length_singleton]
  omega
theorem nameT_dot {n : List (List UInt8)} (h : n ≠ []) : nameT n = dotL n := by unfold nameT; rw [if_neg h]; rfl
set_option maxHeartbeats 1000000 in
theorem domText_any (A : Option Addr) (ca : Nat) (n : List (List UInt8)) (w : World) (hA : NmR w A ca n) (hn : lsum n ≤ 400) :
  Calls prog 26 #[.slice A n.length ca] w (RetB (.string (bs (nameT n))) w) := by
 by_cases hne : n = []
 case pos =>
  subst hne
  go_enter func26, ntmps26
  go_wp2_with fail
  go_ret
  exact RetB.mk rfl (Below.refl _ _)
 obtain ⟨tA, cA, lA, mA⟩ := hA
 have hpos : 0 < n.length := List.length_pos_iff.2 hne
 rw [nameT_dot hne]
 have HL := Hh (lsum_mem n)
 have DL := Hh (fun i => Nat.le_trans (dotL_len (n.take i)) (Nat.mul_le_mul_left 4 (lsum_tk n i)))
 have AD := Hh (fun v q l h1 h2 V h3 h4 => add_any w v q l h1 h2 V h3 h4)
 have hn0 : ((n.length : Int) == 0) = false := by simp; omega
 obtain ⟨R, hR⟩ : ∃ R, Hid (dotL n = R) := ⟨_, Hh rfl⟩
 rw [hR.out]
 go_enter func26, ntmps26
 go_wp2_with fail
 go_loopw [3, 11] (fun v iv wr => ∃ k : Nat, k ≤ n.length ∧ iv = .int .i64 k ∧ wr.ownsRow w.heap.size 5 1 v (dotL (n.take k)).length (octs (dotL (n.take k))) ∧ Below w.heap.size w wr) (fun _ iv _ => n.length - (intOf iv).toNat)
 case atStart => exact ⟨0, Nat.zero_le _, rfl, World.ownsRow_nil _ _ _ _, Below.refl _ _⟩
 obtain ⟨k, hk, rfl, hb, hB⟩ := hrel
 obtain ⟨A', c', hv⟩ := own_form hb
 subst hv
 by_cases hlt : k < n.length
 case pos =>
  have hlt' : (k : Int) < n.length := by omega
  obtain ⟨ba, oa, rfl, la, xa⟩ := tA (by omega)
  have c1 : wr.cell? ⟨ba, oa + k, none⟩ = some (.string (bs n[k])) := (hB.cell (p := ⟨ba, oa + k, none⟩) la).trans (xa k hlt)
  have hd := DL.out k
  have hll := HL.out _ (List.getElem_mem hlt)
  have lb := (labB_len n[k]).2
  have HX : Hid (dotL (n.take (k + 1)) = dotL (n.take k) ++ labB n[k] ++ [46]) := Hh (dotL_next hlt)
  have A1 := Hh (AD.out _ (dotL (n.take k)) n[k] (by omega) (by omega) wr hb hB)
  clear xa AD DL HL hb hR
  generalize dotL (n.take k) = P at *
  generalize n[k] = l at *
  go_wp2_with fail
  refine A1.out.mono ?_
  rintro _ w1 ⟨A2, c2, rfl, hb, hB1⟩
  have hql : (P ++ labB l).length ≤ 5000 := by rw [List.length_append]; omega
  clear A1 c1
  generalize P ++ labB l = Q at *
  go_wp2_with (at_builtin; go_must (refine wpList_appB _ rfl (.tmp 17) (.tmp 18) 55 rfl 5 (.int .u8 0) 1 1 underlying55 byteInfo rfl (by decide) w.heap.size _ Q.length _ rfl (World.ownsRow.alloc hb _) (by have := hB1.size; simp; omega) ⟨w1.heap.size, 0, none⟩ 1 1 [_] rfl rfl (new_one _ _ _ _ rfl) (one_cell1 rfl) (by decide) (by simp only [maxLen]; omega) (by omega) ?_))
  intro g2 cap2 w2 hb2 hgr2 hlt2
  have hB2 := below_own (hB1.alloc hB1.size _) (by have := hB1.size; simp; omega) (hb.alloc _) hgr2
  have hb3 : w2.ownsRow w.heap.size 5 1 (.slice (some ⟨g2, 0, none⟩) (Q.length + 1) cap2) (dotL (n.take (k + 1))).length (octs (dotL (n.take (k + 1)))) := by rw [HX.out, octs_app, List.length_append]; exact hb2
  clear hb hb2 hgr2 hB1 hB
  go_wp2_with fail
  go_roundw
  case rel => exact ⟨k + 1, by omega, by go_num, hb3, hB2⟩
  case measure => simp [intOf]; omega
 obtain rfl : k = n.length := by omega
 have hlt' : ¬ (n.length : Int) < n.length := by omega
 rw [List.take_of_length_le (Nat.le_refl _), hR.out] at hb ⊢
 have hcv := own_text hb
 clear hb hR DL HL AD tA
 go_wp2_with fail
 go_ret
 exact RetB.mk rfl hB
theorem rdomText_any (A : Option Addr) (ca : Nat) (n : List (List UInt8)) (w : World) (hA : NmR w A ca n) (hn : lsum n ≤ 400) :
  Calls prog 33 #[.slice A n.length ca] w (Ret (.string (bs (nameT n))) w) := by
 by_cases hne : n = []
 case pos =>
  subst hne
  go_enter func33, ntmps33
  go_wp2_with fail
  go_ret
  exact ⟨rfl, rfl⟩
 have hpos : 0 < n.length := List.length_pos_iff.2 hne
 have PL := Hh (rplain4_any A ca n w hA hn hne)
 rw [nameT_join hne]
 have hJ : (joinB n).length ≤ 2000 := by have := joinB_len n; omega
 have hn0 : ((n.length : Int) == 0) = false := by simp; omega
 generalize joinB n = J at *
 go_enter func33, ntmps33
 go_wp2_with fail
 refine PL.out.mono ?_
 rintro _ _ ⟨rfl, rfl⟩
 go_wp2_with fail
 go_ret
 exact ⟨rfl, rfl⟩
end Go.Proofs.YtkcbffldncmbcaaGreatDoor
