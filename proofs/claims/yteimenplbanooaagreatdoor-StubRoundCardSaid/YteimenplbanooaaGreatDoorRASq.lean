/-
  Layer 5, plainly: which name a text is.
-/
import Derived.Test.YteimenplbanooaaGreatDoorRARq
namespace Go.Proofs.YteimenplbanooaaGreatDoor
open _root_.Go.Proofs.Tryz
open Go.RowKit
set_option maxRecDepth 100000
set_option linter.unusedVariables false
set_option linter.unusedSimpArgs false
def digB (c : UInt8) : Bool := decide (48 ≤ c.toNat) && decide (c.toNat ≤ 57)
def dec3 (c d e : UInt8) : Nat := 100 * (c.toNat - 48) + 10 * (d.toNat - 48) + (e.toNat - 48)
def esc : List UInt8 → Option (UInt8 × Nat)
 | [] => none
 | c :: t => if digB c = false then some (c, 1) else match t with
  | d :: e :: _ => if (digB d && digB e) = true then (if 255 < dec3 c d e then none else some (UInt8.ofNat (dec3 c d e), 3)) else none
  | _ => none
theorem esc_len {s : List UInt8} {c : UInt8} {k : Nat} (h : esc s = some (c, k)) : 1 ≤ k ∧ k ≤ s.length := by
 match s with
 | [] => simp [esc] at h
 | [a] =>
  simp only [esc] at h
  split at h
  ·
   simp at h; simp [← h.2]
  ·
   simp at h
 | [a, b] =>
  simp only [esc] at h
  split at h
  ·
   simp at h; simp [← h.2]
  ·
   simp at h
 | a :: b :: d :: t =>
  simp only [esc] at h
  split at h
  ·
   simp at h; simp [← h.2]
  ·
   split at h
   ·
    split at h
    ·
     simp at h
    ·
     simp at h; simp [← h.2]
   ·
    simp at h
def lab (s b : List UInt8) : Except Int (List UInt8 × List UInt8) :=
 match s with
 | [] => .ok (b, [])
 | c :: t => if c = 46 then .ok (b, c :: t) else if c = 92 then (match h : esc t with
   | none => .error 5
   | some (e, k) => lab (t.drop k) (b ++ [e])) else lab t (b ++ [c])
termination_by s.length
decreasing_by all_goals (simp only [List.length_drop, List.length_cons]; omega)
theorem lab_nil (b : List UInt8) : lab [] b = .ok (b, []) := by rw [lab]
theorem lab_dot (t b : List UInt8) : lab (46 :: t) b = .ok (b, 46 :: t) := by rw [lab, if_pos rfl]
theorem lab_bad {t b : List UInt8} (h : esc t = none) : lab (92 :: t) b = .error 5 := by
 rw [lab, if_neg (by decide), if_pos rfl]
 split
 ·
  rfl
 ·
  rename_i e k h2; rw [h] at h2; cases h2
theorem lab_esc {t b : List UInt8} {e : UInt8} {k : Nat} (h : esc t = some (e, k)) : lab (92 :: t) b = lab (t.drop k) (b ++ [e]) := by
 rw [lab, if_neg (by decide), if_pos rfl]
 split
 ·
  rename_i h2; rw [h] at h2; cases h2
 ·
  rename_i e2 k2 h2; rw [h] at h2; cases h2; rfl
theorem lab_one {c : UInt8} (t b : List UInt8) (h1 : c ≠ 46) (h2 : c ≠ 92) : lab (c :: t) b = lab t (b ++ [c]) := by rw [lab, if_neg h1, if_neg h2]
theorem lab_ok : ∀ (m : Nat) (s b b' r : List UInt8), s.length ≤ m → lab s b = .ok (b', r) → ∃ n, n ≤ s.length ∧ r = s.drop n ∧ (r = [] ∨ ∃ t, r = 46 :: t) ∧ b'.length ≤ b.length + n ∧ ∃ x, b' = b ++ x := by
 intro m
 induction m with
 | zero =>
  intro s b b' r hs h
  obtain rfl : s = [] := List.length_eq_zero_iff.1 (by omega)
  rw [lab_nil] at h
  cases h
  exact ⟨0, by simp, rfl, .inl rfl, by omega, [], by simp⟩
 | succ m ih =>
  intro s b b' r hs h
  cases s with
  | nil =>
   rw [lab_nil] at h
   cases h
   exact ⟨0, by simp, rfl, .inl rfl, by omega, [], by simp⟩
  | cons c t =>
   simp only [List.length_cons] at hs
   by_cases h1 : c = 46
   ·
    subst h1
    rw [lab_dot] at h
    cases h
    exact ⟨0, by simp, rfl, .inr ⟨t, rfl⟩, by omega, [], by simp⟩
   by_cases h2 : c = 92
   ·
    subst h2
    cases he : esc t with
    | none => rw [lab_bad he] at h; cases h
    | some x =>
     obtain ⟨e, k⟩ := x
     obtain ⟨k1, k2⟩ := esc_len he
     rw [lab_esc he] at h
     obtain ⟨n, a1, a2, a3, a4, y, a5⟩ := ih _ _ _ _ (by simp; omega) h
     simp only [List.length_drop, List.length_append, List.length_singleton] at a1 a4
     exact ⟨1 + k + n, by simp; omega, by rw [a2, List.drop_drop, show 1 + k + n = (k + n) + 1 by omega, List.drop_succ_cons], a3, by omega, [e] ++ y, by rw [a5, List.append_assoc]⟩
   ·
    rw [lab_one t b h1 h2] at h
    obtain ⟨n, a1, a2, a3, a4, y, a5⟩ := ih _ _ _ _ (by omega) h
    simp only [List.length_append, List.length_singleton] at a4
    exact ⟨n + 1, by simp; omega, by rw [a2, List.drop_succ_cons], a3, by omega, [c] ++ y, by rw [a5, List.append_assoc]⟩
def lab1 (x : Except Int (List UInt8 × List UInt8)) : Except Int (List UInt8 × List UInt8) := match x with
 | .error e => .error e
 | .ok (b, r) => if b = [] then .error 8 else if 63 < b.length then .error 7 else .ok (b, r)
def pars : Nat → List UInt8 → List (List UInt8) → Except Int (List (List UInt8) × Bool)
 | 0, _, n => .ok (n, false)
 | f + 1, s, n => match lab1 (lab s []) with
  | .error e => .error e
  | .ok (b, r) => if r.length ≤ 1 then .ok (n ++ [b], r.length == 1) else pars f (r.drop 1) (n ++ [b])
def parse (s : List UInt8) : Except Int (List (List UInt8) × Bool) :=
 if s = [46] then .ok ([], true) else if s = [] then .error 8 else match pars s.length s [] with
  | .error e => .error e
  | .ok (n, d) => if 255 < 1 + lsum n then .error 3 else .ok (n, d)
theorem pars_bad {f : Nat} {s : List UInt8} {n : List (List UInt8)} {e : Int} (h : lab1 (lab s []) = .error e) : pars (f + 1) s n = .error e := by rw [pars, h]
theorem pars_end {f : Nat} {s b r : List UInt8} {n : List (List UInt8)} (h : lab1 (lab s []) = .ok (b, r)) (hr : r.length ≤ 1) : pars (f + 1) s n = .ok (n ++ [b], r.length == 1) := by rw [pars, h]; simp only; rw [if_pos hr]
theorem pars_more {f : Nat} {s b r : List UInt8} {n : List (List UInt8)} (h : lab1 (lab s []) = .ok (b, r)) (hr : ¬ r.length ≤ 1) : pars (f + 1) s n = pars f (r.drop 1) (n ++ [b]) := by rw [pars, h]; simp only; rw [if_neg hr]
theorem lab1_ok {s b r : List UInt8} (h : lab1 (lab s []) = .ok (b, r)) : b ≠ [] ∧ b.length ≤ 63 ∧ lab s [] = .ok (b, r) := by
 cases hl : lab s [] with
 | error e => rw [hl] at h; cases h
 | ok x =>
  obtain ⟨b', r'⟩ := x
  rw [hl] at h
  simp only [lab1] at h
  split at h
  ·
   cases h
  ·
   split at h
   ·
    cases h
   ·
    cases h; rename_i h1 h2; exact ⟨h1, by omega, rfl⟩
theorem pars_ok : ∀ (f : Nat) (s : List UInt8) (n n' : List (List UInt8)) (d : Bool), (∀ l ∈ n, l ≠ [] ∧ l.length ≤ 63) → pars f s n = .ok (n', d) → (∀ l ∈ n', l ≠ [] ∧ l.length ≤ 63) ∧ (0 < f → n' ≠ []) ∧ n.length ≤ n'.length := by
 intro f
 induction f with
 | zero => intro s n n' d hn h; cases h; exact ⟨hn, fun h => absurd h (by omega), Nat.le_refl _⟩
 | succ f ih =>
  intro s n n' d hn h
  cases ho : lab1 (lab s []) with
  | error e => rw [pars_bad ho] at h; cases h
  | ok x =>
   obtain ⟨b, r⟩ := x
   obtain ⟨h1, h2, _⟩ := lab1_ok ho
   have hn2 : ∀ l ∈ n ++ [b], l ≠ [] ∧ l.length ≤ 63 := by
    intro l hl
    rcases List.mem_append.1 hl with hl | hl
    ·
     exact hn l hl
    ·
     rw [List.mem_singleton.1 hl]; exact ⟨h1, h2⟩
   by_cases hr : r.length ≤ 1
   ·
    rw [pars_end ho hr] at h
    cases h
    exact ⟨hn2, fun _ => by simp, by simp⟩
   ·
    rw [pars_more ho hr] at h
    obtain ⟨a1, a2, a3⟩ := ih _ _ _ _ hn2 h
    refine ⟨a1, fun _ hc => ?_, by simp at a3; omega⟩
    subst hc
    simp at a3
theorem parse_ok {s : List UInt8} {n : List (List UInt8)} {d : Bool} (h : parse s = .ok (n, d)) : checkN n = 0 ∧ (∀ l ∈ n, l ≠ [] ∧ l.length ≤ 63) ∧ 1 + lsum n ≤ 255 ∧ (n = [] → s = [46]) := by
 unfold parse at h
 split at h
 ·
  rename_i hs
  cases h
  exact ⟨by decide, by simp, by decide, fun _ => hs⟩
 split at h
 ·
  cases h
 rename_i h1 h2
 cases hp : pars s.length s [] with
 | error e => rw [hp] at h; cases h
 | ok x =>
  obtain ⟨n', d'⟩ := x
  rw [hp] at h
  simp only at h
  split at h
  ·
   cases h
  rename_i h3
  cases h
  obtain ⟨a1, a2, _⟩ := pars_ok _ _ _ _ _ (by simp) hp
  refine ⟨?_, a1, by omega, fun hn => absurd hn (a2 (by cases s with | nil => exact absurd rfl h2 | cons => simp))⟩
  unfold checkN
  rw [if_neg, if_neg h3]
  intro hc
  obtain ⟨l, hl, hb⟩ := List.any_eq_true.1 hc
  obtain ⟨b1, b2⟩ := a1 l hl
  simp only [badL, Bool.or_eq_true, decide_eq_true_eq, List.isEmpty_iff, beq_iff_eq] at hb
  rcases hb with hb | hb
  ·
   exact b1 (List.length_eq_zero_iff.1 (by omega))
  ·
   omega
theorem digit_any (c : UInt8) (w : World) : Calls prog 238 #[.int .u8 (c.toNat : Int)] w (Ret (.bool (digB c)) w) := by
 have hc := c.toNat_lt
 unfold digB
 generalize c.toNat = n at *
 by_cases h1 : 48 ≤ n
 ·
  have h1' : (48 : Int) ≤ n := by omega
  by_cases h2 : n ≤ 57
  ·
   have h2' : (n : Int) ≤ 57 := by omega
   rw [decide_eq_true h1, decide_eq_true h2]
   clear h1 h2
   go_enter func238, ntmps238
   go_wp2_with fail
   go_ret
   exact Ret.mk rfl rfl
  ·
   have h2' : ¬ (n : Int) ≤ 57 := by omega
   rw [decide_eq_true h1, decide_eq_false h2]
   clear h1 h2
   go_enter func238, ntmps238
   go_wp2_with fail
   go_ret
   exact Ret.mk rfl rfl
 ·
  have h1' : ¬ (48 : Int) ≤ n := by omega
  rw [decide_eq_false h1]
  clear h1
  go_enter func238, ntmps238
  go_wp2_with fail
  go_ret
  exact Ret.mk rfl rfl
def escV (o : Option (UInt8 × Nat)) : Value := match o with
 | none => .tuple #[.int .u8 0, .int .i64 0, .bool false]
 | some (e, k) => .tuple #[.int .u8 (e.toNat : Int), .int .i64 k, .bool true]
theorem esc_0 {s : List UInt8} (h : 0 < s.length) (hd : digB s[0] = false) : esc s = some (s[0], 1) := by
 match s, h with
 | c :: t, _ => unfold esc; simp at hd; simp [hd]
theorem esc_2 {s : List UInt8} (h : 0 < s.length) (hd : digB s[0] = true) (h3 : s.length < 3) : esc s = none := by
 match s, h with
 | [c], _ => unfold esc; simp at hd; simp [hd]
 | [c, d], _ => unfold esc; simp at hd; simp [hd]
 | c :: d :: e :: t, _ => simp at h3; omega
theorem esc_3 {s : List UInt8} (h3 : 3 ≤ s.length) (hd : digB s[0] = true) : esc s = if (digB s[1] && digB s[2]) = true then (if 255 < dec3 s[0] s[1] s[2] then none else some (UInt8.ofNat (dec3 s[0] s[1] s[2]), 3)) else none := by
 match s, h3 with
 | c :: d :: e :: t, _ => simp at hd; simp [esc, hd]
theorem dig_b {c : UInt8} (h : digB c = true) : (48 : Int) ≤ c.toNat ∧ (c.toNat : Int) ≤ 57 := by
 have : 48 ≤ c.toNat ∧ c.toNat ≤ 57 := by simpa [digB] using h
 omega
set_option maxHeartbeats 1000000 in
theorem escaped_any (s : List UInt8) (hl : s.length ≤ 17592186044416) (w : World) : Calls prog 201 #[.string (bs s)] w (RetB (escV (esc s)) w) := by
 by_cases h0 : s = []
 ·
  subst h0
  go_enter func201, ntmps201
  go_wp2_with fail
  go_ret3
  exact RetB.mk rfl (Below.refl _ _)
 have hp : 0 < s.length := List.length_pos_iff.2 h0
 have hne : (s == []) = false := by simpa using h0
 have hne' : s.isEmpty = false := by simpa using h0
 have D0 := Hh (fun w => digit_any s[0] w)
 cases hd : digB s[0] with
 | false =>
  have hE := esc_0 hp hd
  rw [hd] at D0
  rw [hE]
  simp only [escV]
  clear hd hE h0
  go_enter func201, ntmps201
  go_wp2_with fail
  refine (D0.out _).mono ?_
  rintro _ w1 ⟨rfl, rfl⟩
  go_wp2_with fail
  go_ret3
  exact RetB.mk rfl (Below.refl _ _)
 | true =>
 rw [hd] at D0
 by_cases h3 : s.length < 3
 ·
  have hE := esc_2 hp hd h3
  have h3' : (s.length : Int) < 3 := by omega
  rw [hE]
  simp only [escV]
  clear hd hE h0 h3
  go_enter func201, ntmps201
  go_wp2_with fail
  refine (D0.out _).mono ?_
  rintro _ w1 ⟨rfl, rfl⟩
  go_wp2_with fail
  go_ret3
  exact RetB.mk rfl (Below.refl _ _)
 have h3' : ¬ (s.length : Int) < 3 := by omega
 have g1 : 1 < s.length := by omega
 have g2 : 2 < s.length := by omega
 have hE := esc_3 (show 3 ≤ s.length from g2) hd
 have D1 := Hh (fun w => digit_any s[1] w)
 have D2 := Hh (fun w => digit_any s[2] w)
 have HE : Hid (digB s[1] = false ∨ digB s[2] = false → esc s = none) := Hh (by
  rintro (h | h) <;> rw [hE, h] <;> simp)
 cases h1 : digB s[1] with
 | false =>
  rw [h1] at D1
  rw [HE.out (.inl h1)]
  simp only [escV]
  clear hd hE h1 D2 HE h0 h3
  go_enter func201, ntmps201
  go_wp2_with fail
  refine (D0.out _).mono ?_
  rintro _ w1 ⟨rfl, rfl⟩
  go_wp2_with fail
  refine (D1.out _).mono ?_
  rintro _ w1 ⟨rfl, rfl⟩
  go_wp2_with fail
  go_ret3
  exact RetB.mk rfl (Below.refl _ _)
 | true =>
 rw [h1] at D1
 cases h2 : digB s[2] with
 | false =>
  rw [h2] at D2
  rw [HE.out (.inr h2)]
  simp only [escV]
  clear hd hE h1 h2 HE h0 h3
  go_enter func201, ntmps201
  go_wp2_with fail
  refine (D0.out _).mono ?_
  rintro _ w1 ⟨rfl, rfl⟩
  go_wp2_with fail
  refine (D1.out _).mono ?_
  rintro _ w1 ⟨rfl, rfl⟩
  go_wp2_with fail
  refine (D2.out _).mono ?_
  rintro _ w1 ⟨rfl, rfl⟩
  go_wp2_with fail
  go_ret3
  exact RetB.mk rfl (Below.refl _ _)
 | true =>
 rw [h2] at D2
 rw [h1, h2, Bool.and_self, if_pos rfl] at hE
 obtain ⟨b01, b02⟩ := dig_b hd
 obtain ⟨b11, b12⟩ := dig_b h1
 obtain ⟨b21, b22⟩ := dig_b h2
 have HV : Hid (((dec3 s[0] s[1] s[2] : Nat) : Int) = (100 : Int) * ((s[0].toNat : Int) - (48 : Int)) + (10 : Int) * ((s[1].toNat : Int) - (48 : Int)) + ((s[2].toNat : Int) - (48 : Int))) := Hh (by unfold dec3; omega)
 have HU : Hid (¬ 255 < dec3 s[0] s[1] s[2] → (UInt8.ofNat (dec3 s[0] s[1] s[2])).toNat = dec3 s[0] s[1] s[2]) := Hh (fun h => by rw [UInt8.toNat_ofNat']; omega)
 have HEE := Hh hE
 clear hd h1 h2 HE h0 h3 hE
 generalize UInt8.ofNat (dec3 s[0] s[1] s[2]) = U at *
 generalize dec3 s[0] s[1] s[2] = V at *
 have hlt : (255 < V ↔ (255 : Int) < (100 : Int) * ((s[0].toNat : Int) - (48 : Int)) + (10 : Int) * ((s[1].toNat : Int) - (48 : Int)) + ((s[2].toNat : Int) - (48 : Int))) := by have := HV.out; omega
 by_cases h5 : 255 < V
 ·
  have h5' := hlt.1 h5
  have HE2 : Hid (esc s = none) := Hh (by rw [HEE.out, if_pos h5])
  rw [HE2.out]
  simp only [escV]
  clear h5 HU HV hlt HEE HE2
  go_enter func201, ntmps201
  go_wp2_with fail
  refine (D0.out _).mono ?_
  rintro _ w1 ⟨rfl, rfl⟩
  go_wp2_with fail
  refine (D1.out _).mono ?_
  rintro _ w1 ⟨rfl, rfl⟩
  go_wp2_with fail
  refine (D2.out _).mono ?_
  rintro _ w1 ⟨rfl, rfl⟩
  go_wp2_with fail
  go_quiet (fail)
  go_wp2_with fail
  go_ret3
  exact RetB.mk rfl (below_drewN (Below.refl _ _) _)
 ·
  have h5' := fun h => h5 (hlt.2 h)
  have HE2 : Hid (esc s = some (U, 3)) := Hh (by rw [HEE.out, if_neg h5])
  have HU2 := Hh (HU.out h5)
  rw [HE2.out]
  simp only [escV]
  rw [HU2.out]
  clear h5 HU HU2 hlt HEE HE2
  go_enter func201, ntmps201
  go_wp2_with fail
  refine (D0.out _).mono ?_
  rintro _ w1 ⟨rfl, rfl⟩
  go_wp2_with fail
  refine (D1.out _).mono ?_
  rintro _ w1 ⟨rfl, rfl⟩
  go_wp2_with fail
  refine (D2.out _).mono ?_
  rintro _ w1 ⟨rfl, rfl⟩
  go_wp2_with fail
  go_quiet (fail)
  go_wp2_with fail
  go_ret3
  exact RetB.mk (by rw [HV.out]; rfl) (below_drewN (Below.refl _ _) _)
def oneV (s : List UInt8) : Value := match lab1 (lab s []) with
 | .error e => .tuple #[.string (bs []), .int .i64 0, .int .i64 e]
 | .ok (b, r) => .tuple #[.string (bs b), .int .i64 ((s.length : Int) - (r.length : Int)), .int .i64 0]
theorem oneV_err {s : List UInt8} {e : Int} (h : lab1 (lab s []) = .error e) : oneV s = .tuple #[.string (bs []), .int .i64 0, .int .i64 e] := by unfold oneV; rw [h]
theorem oneV_ok {s b r : List UInt8} (h : lab1 (lab s []) = .ok (b, r)) : oneV s = .tuple #[.string (bs b), .int .i64 ((s.length : Int) - (r.length : Int)), .int .i64 0] := by unfold oneV; rw [h]
theorem drop_cons {s : List UInt8} {k : Nat} (h : k < s.length) : s.drop k = s[k] :: s.drop (k + 1) := List.drop_eq_getElem_cons h
theorem one_end {s b r : List UInt8} (h : lab s [] = .ok (b, r)) : oneV s = if b = [] then .tuple #[.string (bs []), .int .i64 0, .int .i64 8] else if 63 < b.length then .tuple #[.string (bs []), .int .i64 0, .int .i64 7] else .tuple #[.string (bs b), .int .i64 ((s.length : Int) - (r.length : Int)), .int .i64 0] := by
 by_cases h1 : b = []
 ·
  rw [if_pos h1]; exact oneV_err (by rw [h]; simp only [lab1]; rw [if_pos h1])
 by_cases h2 : 63 < b.length
 ·
  rw [if_neg h1, if_pos h2]; exact oneV_err (by rw [h]; simp only [lab1]; rw [if_neg h1, if_pos h2])
 ·
  rw [if_neg h1, if_neg h2]; exact oneV_ok (by rw [h]; simp only [lab1]; rw [if_neg h1, if_neg h2])
set_option maxHeartbeats 2000000 in
theorem one_any (s : List UInt8) (hl : s.length ≤ 17592186044416) (w : World) : Calls prog 149 #[.string (bs s)] w (RetB (oneV s) w) := by
 obtain ⟨R, hR⟩ : ∃ R, Hid (oneV s = R) := ⟨_, Hh rfl⟩
 rw [hR.out]
 go_enter func149, ntmps149
 go_wp2_with fail
 go_loopw [5, 6] (fun v iv wr => ∃ (k : Nat) (b : List UInt8), k ≤ s.length ∧ iv = .int .i64 k ∧ wr.ownsRow w.heap.size 5 1 v b.length (octs b) ∧ b.length ≤ k ∧ Hid (lab s [] = lab (s.drop k) b) ∧ Below w.heap.size w wr) (fun _ iv _ => s.length - (intOf iv).toNat)
 case atStart => exact ⟨0, [], Nat.zero_le _, rfl, World.ownsRow_nil _ _ _ _, Nat.le_refl _, Hh rfl, Below.refl _ _⟩
 obtain ⟨k, b, hk, rfl, hb, hbk, HL, hB⟩ := hrel
 obtain ⟨A, c, hv⟩ := own_form hb
 subst hv
 by_cases hlt : k < s.length
 case neg =>
  have hlt' : ¬ (k : Int) < s.length := by omega
  have HR : Hid (lab s [] = .ok (b, [])) := Hh (by rw [HL.out, List.drop_of_length_le (by omega), lab_nil])
  have hrl : (s.length : Int) - (([] : List UInt8).length : Int) = k := by simp; omega
  clear HL hlt
  have HE := Hh (hR.out.symm.trans (one_end HR.out))
  have hcv := run_str_own hb
  by_cases h0 : b = []
  ·
   have h0' : ((b.length : Int) == 0) = true := by subst h0; rfl
   rw [if_pos h0] at HE
   have h00 : b.length = 0 := by rw [h0]; rfl
   clear h0 hcv
   go_wp2_with fail
   go_ret3
   exact RetB.mk (by rw [HE.out]; rfl) hB
  have hp : 0 < b.length := List.length_pos_iff.2 h0
  have h0' : ((b.length : Int) == 0) = false := by simp; omega
  rw [if_neg h0] at HE
  clear h0
  by_cases h6 : 63 < b.length
  ·
   have h6' : (63 : Int) < b.length := by omega
   rw [if_pos h6] at HE
   clear h6 hcv
   go_wp2_with fail
   go_ret3
   exact RetB.mk (by rw [HE.out]; rfl) hB
  ·
   have h6' : ¬ (63 : Int) < b.length := by omega
   rw [if_neg h6, hrl] at HE
   clear h6
   go_wp2_with fail
   go_ret3
   exact RetB.mk (by rw [HE.out]; rfl) hB
 have hlt' : (k : Int) < s.length := by omega
 have hc := s[k].toNat_lt
 have HD := Hh (drop_cons hlt)
 by_cases h1 : s[k] = 46
 ·
  have e1 : ((s[k].toNat : Int) != 46) = false := by rw [h1]; rfl
  have HR : Hid (lab s [] = .ok (b, s.drop k)) := Hh (by rw [HL.out, HD.out, h1, lab_dot])
  have hrl : (s.length : Int) - ((s.drop k).length : Int) = k := by simp; omega
  clear HL h1
  generalize s.drop k = r at *
  have HE := Hh (hR.out.symm.trans (one_end HR.out))
  have hcv := run_str_own hb
  by_cases h0 : b = []
  ·
   have h0' : ((b.length : Int) == 0) = true := by subst h0; rfl
   rw [if_pos h0] at HE
   have h00 : b.length = 0 := by rw [h0]; rfl
   clear h0 hcv
   go_wp2_with fail
   go_ret3
   exact RetB.mk (by rw [HE.out]; rfl) hB
  have hp : 0 < b.length := List.length_pos_iff.2 h0
  have h0' : ((b.length : Int) == 0) = false := by simp; omega
  rw [if_neg h0] at HE
  clear h0
  by_cases h6 : 63 < b.length
  ·
   have h6' : (63 : Int) < b.length := by omega
   rw [if_pos h6] at HE
   clear h6 hcv
   go_wp2_with fail
   go_ret3
   exact RetB.mk (by rw [HE.out]; rfl) hB
  ·
   have h6' : ¬ (63 : Int) < b.length := by omega
   rw [if_neg h6, hrl] at HE
   clear h6
   go_wp2_with fail
   go_ret3
   exact RetB.mk (by rw [HE.out]; rfl) hB
 have n1 : s[k].toNat ≠ 46 := fun h => h1 (UInt8.toNat_inj.1 h)
 have e1 : ((s[k].toNat : Int) != 46) = true := by simp; omega
 by_cases h2 : s[k] = 92
 ·
  have e2 : ((s[k].toNat : Int) == 92) = true := by rw [h2]; rfl
  have HL2 : Hid (lab s [] = lab (92 :: s.drop (k + 1)) b) := Hh (by rw [HL.out, HD.out, h2])
  have ES := Hh (fun W => escaped_any (s.drop (k + 1)) (by simp; omega) W)
  clear HL h1 h2 n1 HD
  cases he : esc (s.drop (k + 1)) with
  | none =>
   rw [he] at ES
   simp only [escV] at ES
   have HR : Hid (R = .tuple #[.string (bs []), .int .i64 0, .int .i64 5]) := Hh (hR.out.symm.trans (oneV_err (by rw [HL2.out, lab_bad he]; rfl)))
   clear HL2 he
   go_wp2_with fail
   refine (ES.out _).mono ?_
   rintro _ w1 ⟨rfl, b1⟩
   have hB1 := below_then hB hB.size b1
   go_wp2_with fail
   go_ret3
   exact RetB.mk (by rw [HR.out]; rfl) hB1
  | some x =>
   obtain ⟨e, n⟩ := x
   rw [he] at ES
   simp only [escV] at ES
   obtain ⟨k1, k2⟩ := esc_len he
   simp only [List.length_drop] at k2
   have HL2 : Hid (lab s [] = lab (s.drop (k + 1 + n)) (b ++ [e])) := Hh (by rw [HL2.out, lab_esc he, List.drop_drop])
   have hec := e.toNat_lt
   clear he
   go_wp2_with fail
   refine (ES.out _).mono ?_
   rintro _ w1 ⟨rfl, b1⟩
   have hB := below_then hB hB.size b1
   have hb := own_below hb b1
   clear b1 ES
   go_wp2_with (at_builtin; go_must (refine wpList_appB _ rfl (.tmp 42) (.tmp 44) 131 rfl 5 (.int .u8 0) 1 1 underlying131 byteInfo rfl (by decide) w.heap.size _ b.length _ rfl (World.ownsRow.alloc hb _) (by have := hB.size; simp; omega) ⟨_, 0, none⟩ 1 1 [.int .u8 ((e.toNat : Int))] rfl rfl (new_one _ _ _ _ rfl) (one_cell1 rfl) (by decide) (by simp only [maxLen]; omega) (by omega) ?_))
   intro g2 cap2 w2 hb2 hgr2 hlt2
   have hB2 := below_own (hB.alloc hB.size _) (by have := hB.size; simp; omega) (hb.alloc _) hgr2
   have hb3 : w2.ownsRow w.heap.size 5 1 (.slice (some ⟨g2, 0, none⟩) (b.length + 1) cap2) (b ++ [e]).length (octs (b ++ [e])) := by
    rw [octs_app, List.length_append]; exact hb2
   have hbl : (b ++ [e]).length = b.length + 1 := by simp
   clear hb hb2 hgr2 hB
   go_wp2_with fail
   go_roundw
   case rel => exact ⟨(k + 1 + n), b ++ [e], by omega, by go_num, hb3, by omega, HL2, hB2⟩
   case measure => simp [intOf]; omega
 have n2 : s[k].toNat ≠ 92 := fun h => h2 (UInt8.toNat_inj.1 h)
 have e2 : ((s[k].toNat : Int) == 92) = false := by simp; omega
 have HL2 : Hid (lab s [] = lab (s.drop (k + 1)) (b ++ [s[k]])) := Hh (by rw [HL.out, HD.out, lab_one _ _ h1 h2])
 clear HL h1 h2 n1 n2 HD
 go_wp2_with (at_builtin; go_must (refine wpList_appB _ rfl (.tmp 42) (.tmp 44) 131 rfl 5 (.int .u8 0) 1 1 underlying131 byteInfo rfl (by decide) w.heap.size _ b.length _ rfl (World.ownsRow.alloc hb _) (by have := hB.size; simp; omega) ⟨_, 0, none⟩ 1 1 [.int .u8 ((s[k].toNat : Int))] rfl rfl (new_one _ _ _ _ rfl) (one_cell1 rfl) (by decide) (by simp only [maxLen]; omega) (by omega) ?_))
 intro g2 cap2 w2 hb2 hgr2 hlt2
 have hB2 := below_own (hB.alloc hB.size _) (by have := hB.size; simp; omega) (hb.alloc _) hgr2
 have hb3 : w2.ownsRow w.heap.size 5 1 (.slice (some ⟨g2, 0, none⟩) (b.length + 1) cap2) (b ++ [s[k]]).length (octs (b ++ [s[k]])) := by
  rw [octs_app, List.length_append]; exact hb2
 have hbl : (b ++ [s[k]]).length = b.length + 1 := by simp
 clear hb hb2 hgr2 hB
 go_wp2_with fail
 go_roundw
 case rel => exact ⟨(k + 1), b ++ [s[k]], by omega, by go_num, hb3, by omega, HL2, hB2⟩
 case measure => simp [intOf]; omega
def ParRet (x : Except Int (List (List UInt8) × Bool)) (w : World) (e : Ending) (w' : World) : Prop := match x with
 | .error k => e = .returned (.tuple #[.slice none 0 0, .bool false, .int .i64 k]) ∧ Below w.heap.size w w'
 | .ok (n, d) => ∃ v, e = .returned (.tuple #[v, .bool d, .int .i64 0]) ∧ Txts w' v n ∧ Below w.heap.size w w'
theorem parse_dot : parse [46] = .ok ([], true) := by unfold parse; rw [if_pos rfl]
theorem parse_nil : parse [] = .error 8 := by unfold parse; rw [if_neg (by decide), if_pos rfl]
theorem parse_err {s : List UInt8} {e : Int} (h1 : s ≠ [46]) (h2 : s ≠ []) (h : pars s.length s [] = .error e) : parse s = .error e := by unfold parse; rw [if_neg h1, if_neg h2, h]
theorem parse_got {s : List UInt8} {n : List (List UInt8)} {d : Bool} (h1 : s ≠ [46]) (h2 : s ≠ []) (h : pars s.length s [] = .ok (n, d)) : parse s = if 255 < 1 + lsum n then .error 3 else .ok (n, d) := by unfold parse; rw [if_neg h1, if_neg h2, h]
theorem lab1_len {s b r : List UInt8} (h : lab1 (lab s []) = .ok (b, r)) : 0 < s.length - r.length ∧ r.length ≤ s.length ∧ r = s.drop (s.length - r.length) ∧ (r = [] ∨ ∃ t, r = 46 :: t) ∧ b.length ≤ 63 := by
 obtain ⟨h1, h2, h3⟩ := lab1_ok h
 obtain ⟨n, a1, a2, a3, a4, _⟩ := lab_ok s.length s [] b r (Nat.le_refl _) h3
 have hb : 0 < b.length := List.length_pos_iff.2 h1
 simp at a4
 have hr : r.length = s.length - n := by rw [a2]; simp
 refine ⟨by omega, by omega, ?_, a3, h2⟩
 rw [hr, show s.length - (s.length - n) = n by omega]; exact a2
theorem txts_own {w : World} {B n : Nat} {v : Value} {l : List (List UInt8)} (h : w.ownsRow B 9 1 v n (l.map fun t => Value.string (bs t))) : Txts w v l := by
 have := h.1
 simp at this
 subst this
 exact ⟨h.1, h.2.imp id (fun ⟨g, cap, cur, h1, _, h3⟩ => ⟨g, cap, cur, h1, Nat.zero_le _, h3⟩)⟩
theorem lab_err : ∀ (m : Nat) (s b : List UInt8) (e : Int), s.length ≤ m → lab s b = .error e → e = 5 := by
 intro m
 induction m with
 | zero =>
  intro s b e hs h
  obtain rfl : s = [] := List.length_eq_zero_iff.1 (by omega)
  rw [lab_nil] at h; cases h
 | succ m ih =>
  intro s b e hs h
  cases s with
  | nil => rw [lab_nil] at h; cases h
  | cons c t =>
   simp only [List.length_cons] at hs
   by_cases h1 : c = 46
   ·
    subst h1; rw [lab_dot] at h; cases h
   by_cases h2 : c = 92
   ·
    subst h2
    cases he : esc t with
    | none => rw [lab_bad he] at h; cases h; rfl
    | some x =>
     obtain ⟨e', k⟩ := x
     obtain ⟨k1, k2⟩ := esc_len he
     rw [lab_esc he] at h
     exact ih _ _ _ (by simp; omega) h
   ·
    rw [lab_one t b h1 h2] at h
    exact ih _ _ _ (by omega) h
theorem lab1_err {s : List UInt8} {e : Int} (h : lab1 (lab s []) = .error e) : e = 5 ∨ e = 7 ∨ e = 8 := by
 cases hl : lab s [] with
 | error x => rw [hl] at h; cases h; exact .inl (lab_err _ _ _ _ (Nat.le_refl _) hl)
 | ok x =>
  obtain ⟨b, r⟩ := x
  rw [hl] at h
  simp only [lab1] at h
  split at h
  ·
   cases h; exact .inr (.inr rfl)
  ·
   split at h
   ·
    cases h; exact .inr (.inl rfl)
   ·
    cases h
set_option maxHeartbeats 2000000 in
theorem parse_any (s : List UInt8) (hl : s.length ≤ 1000000) (w : World) : Calls prog 96 #[.string (bs s)] w (ParRet (parse s) w) := by
 by_cases h1 : s = [46]
 ·
  subst h1
  rw [parse_dot]
  unfold ParRet
  go_enter func96, ntmps96
  go_wp2_with fail
  go_ret3
  exact ⟨_, rfl, Txts.nil _, Below.refl _ _⟩
 by_cases h2 : s = []
 ·
  subst h2
  rw [parse_nil]
  unfold ParRet
  go_enter func96, ntmps96
  go_wp2_with fail
  go_ret3
  exact ⟨rfl, Below.refl _ _⟩
 have e1 : (s == [46]) = false := by simpa using h1
 have e2 : (s == []) = false := by simpa using h2
 have PE := Hh (fun e h => parse_err (e := e) h1 h2 h)
 have PG := Hh (fun n d h => parse_got (n := n) (d := d) h1 h2 h)
 obtain ⟨R, hR⟩ : ∃ R, Hid (parse s = R) := ⟨_, Hh rfl⟩
 rw [hR.out] at PE PG ⊢
 obtain ⟨S, hS⟩ : ∃ S, S = s := ⟨_, rfl⟩
 obtain ⟨X, hX⟩ : ∃ X, Hid (pars s.length s [] = X) := ⟨_, Hh rfl⟩
 rw [hX.out] at PE PG
 have hs0 : 0 < s.length := List.length_pos_iff.2 h2
 clear h1 h2 hR
 go_enter func96, ntmps96
 go_wp2_with fail
 go_loopw [0, 5, 6] (fun sv nv dv wr => ∃ (r : List UInt8) (n : List (List UInt8)) (d : Bool), sv = .string (bs r) ∧ dv = .bool d ∧ wr.ownsRow w.heap.size 9 1 nv n.length (n.map fun t => Value.string (bs t)) ∧ n.length + r.length ≤ s.length ∧ (∀ l ∈ n, l.length ≤ 63) ∧ Hid ((r = [] ∧ X = .ok (n, d)) ∨ (0 < r.length ∧ ∃ f, r.length ≤ f ∧ X = pars f r n)) ∧ Below w.heap.size w wr) (fun sv _ _ _ => match sv with | .string x => x.size | _ => 0)
 case atStart => exact ⟨s, [], false, rfl, rfl, World.ownsRow_nil _ _ _ _, by simp, by simp, Hh (.inr ⟨hs0, s.length, Nat.le_refl _, hX.out.symm⟩), Below.refl _ _⟩
 obtain ⟨r, n, d, rfl, rfl, hb, hlen, h63, HX, hB⟩ := hrel
 obtain ⟨A, c, hv⟩ := own_form hb
 subst hv
 by_cases h0 : r = []
 case pos =>
  subst h0
  have HXe : Hid (X = .ok (n, d)) := Hh (by rcases HX.out with h | h; exact h.2; exact absurd h.1 (by simp))
  have HR := Hh (PG.out n d HXe.out)
  have HT := txts_own hb
  obtain ⟨A2, c2, e2', hTR, _⟩ := HT.form
  injection e2' with q1 q2 q3
  subst q1 q3
  have hls := lsum_bound n h63
  have DS := Hh (fun W (hW : Below wr.heap.size wr W) => dsize_any A c n W (hTR.below hW) (by omega) (by omega))
  have DS1 := Hh (DS.out wr (Below.refl _ _))
  have HTT := Hh HT
  clear HX HXe PE PG hX DS h63 hb HT hTR
  generalize lsum n = ls at *
  by_cases h3 : 255 < 1 + ls
  ·
   have h3' : (255 : Int) < 1 + (ls : Int) := by omega
   rw [if_pos h3] at HR
   clear h3
   go_wp2_with fail
   refine DS1.out.mono ?_
   rintro _ w1 ⟨rfl, rfl⟩
   go_wp2_with fail
   go_ret3
   rw [HR.out]
   exact ⟨rfl, hB⟩
  ·
   have h3' : ¬ (255 : Int) < 1 + (ls : Int) := by omega
   rw [if_neg h3] at HR
   clear h3
   go_wp2_with fail
   refine DS1.out.mono ?_
   rintro _ w1 ⟨rfl, rfl⟩
   go_wp2_with fail
   go_ret3
   rw [HR.out]
   exact ⟨_, rfl, HTT.out, hB⟩
 have hne : (r == []) = false := by simpa using h0
 have hne' : r.isEmpty = false := by simpa using h0
 have hp : 0 < r.length := List.length_pos_iff.2 h0
 have HXf : Hid (∃ f, r.length ≤ f + 1 ∧ X = pars (f + 1) r n) := Hh (by
  rcases HX.out with h | ⟨_, f, h1, h2⟩
  ·
   exact absurd h.1 h0
  ·
   exact ⟨f - 1, by omega, by rw [show f - 1 + 1 = f by omega]; exact h2⟩)
 obtain ⟨f, hf, hXX⟩ := HXf.out
 have HXX := Hh hXX
 have ON := Hh (fun W => one_any r (by omega) W)
 clear HX HXf hXX h0
 cases ho : lab1 (lab r []) with
 | error e =>
  have HV := oneV_err ho
  rw [HV] at ON
  have hee := lab1_err ho
  have he : (e != 0) = true := by rcases hee with h | h | h <;> (subst h; rfl)
  have HR := Hh (PE.out e (by rw [HXX.out, pars_bad ho]))
  clear ho HV hee PE PG hX HXX hb h63
  go_wp2_with fail
  refine (ON.out _).mono ?_
  rintro _ w1 ⟨rfl, b1⟩
  have hB1 := below_then hB hB.size b1
  go_wp2_with fail
  go_ret3
  rw [HR.out]
  exact ⟨rfl, hB1⟩
 | ok x =>
  obtain ⟨b, r'⟩ := x
  have HV := oneV_ok ho
  rw [HV] at ON
  obtain ⟨k1, k2, k3, k4, hb63⟩ := lab1_len ho
  obtain ⟨m, hm⟩ : ∃ m, r.length - r'.length = m := ⟨_, rfl⟩
  have hm2 : (r.length : Int) - (r'.length : Int) = m := by omega
  rw [hm] at k1 k3
  rw [hm2] at ON
  have HOK := Hh ho
  clear ho HV
  rcases k4 with k4 | ⟨t, k4⟩
  ·
   subst k4
   have hmr : m = r.length := by simpa using hm.symm
   have HX2 : Hid (X = .ok (n ++ [b], false)) := Hh (by rw [HXX.out, pars_end HOK.out (by simp)]; rfl)
   have hdr : Hid (r.drop m = []) := Hh k3.symm
   have hml : ¬ (m : Int) < r.length := by omega
   clear k3 HOK HXX k2 hm2
   go_wp2_with fail
   refine (ON.out _).mono ?_
   rintro _ w1 ⟨rfl, b1⟩
   have hB := below_then hB hB.size b1
   have hb := own_below hb b1
   clear b1 ON
   go_wp2_with (at_builtin; go_must (refine wpList_appB _ rfl (.tmp 25) (.tmp 27) 81 rfl 9 (.string ⟨#[]⟩) 1 16 underlying81 strInfo rfl (by decide) w.heap.size _ n.length _ rfl (World.ownsRow.alloc hb _) (by have := hB.size; simp; omega) ⟨_, 0, none⟩ 1 1 [.string (bs b)] rfl rfl (new_one _ _ _ _ rfl) (one_cell1 rfl) (by decide) (by simp only [maxLen]; omega) (by omega) ?_))
   intro g2 cap2 w2 hb2 hgr2 hlt2
   have hB2 := below_own (hB.alloc hB.size _) (by have := hB.size; simp; omega) (hb.alloc _) hgr2
   have hb3 : w2.ownsRow w.heap.size 9 1 (.slice (some ⟨g2, 0, none⟩) (n.length + 1) cap2) (n ++ [b]).length ((n ++ [b]).map fun t => Value.string (bs t)) := by
    rw [List.map_append, List.length_append]; exact hb2
   have hnl : (n ++ [b]).length = n.length + 1 := by simp
   have h63 : ∀ l ∈ n ++ [b], l.length ≤ 63 := by
    intro l hl
    rcases List.mem_append.1 hl with hl | hl
    ·
     exact h63 l hl
    ·
     rw [List.mem_singleton.1 hl]; exact hb63
   clear hb hb2 hgr2 hB
   go_wp2_with fail
   go_roundw
   case rel => exact ⟨[], n ++ [b], false, rfl, rfl, hb3, by simp; omega, h63, Hh (.inl ⟨rfl, HX2.out⟩), hB2⟩
   case measure => simp; omega
  ·
   have hrl : r'.length = t.length + 1 := by rw [k4]; rfl
   have hdr : Hid (r.drop (m + 1) = t) := Hh (by
    have : r.drop (m + 1) = (r.drop m).drop 1 := by rw [List.drop_drop]
    rw [this, ← k3, k4]; rfl)
   have HX2 : Hid ((t = [] ∧ X = .ok (n ++ [b], true)) ∨ (0 < t.length ∧ ∃ f, t.length ≤ f ∧ X = pars f t (n ++ [b]))) := Hh (by
    by_cases ht : t = []
    ·
     refine .inl ⟨ht, ?_⟩
     rw [HXX.out, pars_end HOK.out (by rw [hrl, ht]; decide), hrl, ht]; rfl
    ·
     have htp : 0 < t.length := List.length_pos_iff.2 ht
     refine .inr ⟨htp, f, by omega, ?_⟩
     rw [HXX.out, pars_more HOK.out (by omega), k4]; rfl)
   have hml : (m : Int) < r.length := by omega
   clear k3 k4 HOK HXX
   go_wp2_with fail
   refine (ON.out _).mono ?_
   rintro _ w1 ⟨rfl, b1⟩
   have hB := below_then hB hB.size b1
   have hb := own_below hb b1
   clear b1 ON
   go_wp2_with (at_builtin; go_must (refine wpList_appB _ rfl (.tmp 25) (.tmp 27) 81 rfl 9 (.string ⟨#[]⟩) 1 16 underlying81 strInfo rfl (by decide) w.heap.size _ n.length _ rfl (World.ownsRow.alloc hb _) (by have := hB.size; simp; omega) ⟨_, 0, none⟩ 1 1 [.string (bs b)] rfl rfl (new_one _ _ _ _ rfl) (one_cell1 rfl) (by decide) (by simp only [maxLen]; omega) (by omega) ?_))
   intro g2 cap2 w2 hb2 hgr2 hlt2
   have hB2 := below_own (hB.alloc hB.size _) (by have := hB.size; simp; omega) (hb.alloc _) hgr2
   have hb3 : w2.ownsRow w.heap.size 9 1 (.slice (some ⟨g2, 0, none⟩) (n.length + 1) cap2) (n ++ [b]).length ((n ++ [b]).map fun t => Value.string (bs t)) := by
    rw [List.map_append, List.length_append]; exact hb2
   have hnl : (n ++ [b]).length = n.length + 1 := by simp
   have h63 : ∀ l ∈ n ++ [b], l.length ≤ 63 := by
    intro l hl
    rcases List.mem_append.1 hl with hl | hl
    ·
     exact h63 l hl
    ·
     rw [List.mem_singleton.1 hl]; exact hb63
   clear hb hb2 hgr2 hB
   go_wp2_with fail
   go_roundw
   case rel => exact ⟨t, n ++ [b], true, by rw [hdr.out], rfl, hb3, by omega, h63, HX2, hB2⟩
   case measure => rw [hdr.out]; simp; omega
def CatRet (n : List (List UInt8)) (w : World) (e : Ending) (w' : World) : Prop := ∃ A k c, e = .returned (.tuple #[.slice A k c, .int .i64 (checkN n)]) ∧ (checkN n = 0 → NmO w' (.slice A k c) n) ∧ Below w.heap.size w w'
theorem own_make (w : World) (m : Nat) (hm : m ≤ 1000000) : ∃ Z : List Value, (∀ W : World, (Instr.makeSlice 81 (.int .i64 0) (.int .i64 (m : Int))).run prog W = .ok (.slice (some ⟨W.heap.size, 0, none⟩) 0 m) (W.alloc (.cells Z.toArray 9))) ∧ (w.alloc (.cells Z.toArray 9)).ownsRow w.heap.size 9 1 (.slice (some ⟨w.heap.size, 0, none⟩) 0 m) 0 [] := by
 obtain ⟨i, hi, hz, hsize, hby⟩ := info_parts strInfo
 refine ⟨(madeCells (Value.string ⟨#[]⟩).cells (m * i.size)).toList, fun W => ?_, ?_⟩
 ·
  have h := run_make (P := prog) (w := W) 81 9 i _ underlying81 hi hz .i64 .i64 (0 : Int) (m : Int) (by omega) (by omega) (by rw [hby]; omega) (by omega)
  rw [Array.toArray_toList]
  simpa using h
 ·
  refine ⟨rfl, .inr ⟨w.heap.size, m, (madeCells (Value.string ⟨#[]⟩).cells (m * i.size)), rfl, Nat.le_refl _, ?_, Nat.zero_le _, by simp only [maxLen]; omega, by simp [madeCells, hsize], by simp⟩⟩
  rw [Array.toArray_toList]
  exact heap_alloc_new w _
theorem cat_any (A B : Option Addr) (ca cb : Nat) (a b : List (List UInt8)) (w : World) (hA : NmR w A ca a) (hB : NmR w B cb b) (ha : a.length ≤ 100000) (hb : b.length ≤ 100000) :
  Calls prog 148 #[.slice A a.length ca, .slice B b.length cb] w (CatRet (a ++ b) w) := by
 obtain ⟨Z, hmk, hO⟩ := own_make w (a.length + b.length) (by omega)
 have H0 : Below w.heap.size w (w.alloc (.cells Z.toArray 9)) := (Below.refl _ _).alloc (Nat.le_refl _) _
 have RA := (hA.below H0).range
 have RB := Hh (fun V (k : Below w.heap.size w V) => (hB.below k).range)
 have hcast : (((a.length + b.length : Nat) : Int)) = (a.length : Int) + (b.length : Int) := by omega
 rw [hcast] at hmk
 have hsa : (strs a).length = a.length * 1 := by simp [strs]
 have hsb : (strs b).length = b.length * 1 := by simp [strs]
 have h1a : ∀ u ∈ strs a, u.oneCell' = true := fun u hu => by obtain ⟨x, _, rfl⟩ := List.mem_map.1 hu; rfl
 have h1b : ∀ u ∈ strs b, u.oneCell' = true := fun u hu => by obtain ⟨x, _, rfl⟩ := List.mem_map.1 hu; rfl
 have HS : Hid (strs (a ++ b) = strs a ++ strs b) := Hh (by simp [strs])
 have HL : Hid ((a ++ b).length = a.length + b.length) := Hh (by simp)
 clear hA hB
 generalize a ++ b = n at *
 generalize strs a = sa at *
 generalize strs b = sb at *
 generalize a.length = la at *
 generalize b.length = lb at *
 go_enter func148, ntmps148
 go_wp2_with (at_builtin; go_must (refine wpList_appG _ rfl (.tmp 14) (.tmp 15) 81 rfl 9 (.string ⟨#[]⟩) 1 16 underlying81 strInfo rfl (by decide) w.heap.size _ 0 [] rfl hO (by simp) A la ca sa rfl RA hsa h1a (by simp only [maxLen]; omega) (by omega) la (by omega) ?_))
 intro A1 c1 w1 ho1 hg1
 have H1 := below_own H0 H0.size hO hg1
 have RB1 := RB.out _ H1
 clear hO hg1 H0 RA
 go_wp2_with (at_builtin; go_must (refine wpList_appG _ rfl (.tmp 16) (.tmp 17) 81 rfl 9 (.string ⟨#[]⟩) 1 16 underlying81 strInfo rfl (by decide) w.heap.size _ la _ rfl ho1 H1.size B lb cb sb rfl RB1 hsb h1b (by simp only [maxLen]; omega) (by omega) (la + lb) rfl ?_))
 intro A2 c2 w2 ho2 hg2
 have H2 := below_own H1 H1.size ho1 hg2
 have T2 : Txts w2 (.slice A2 (la + lb) c2) n := by
  rw [← HL.out]
  rw [← HL.out] at ho2
  have := HS.out
  unfold strs at this
  rw [← this] at ho2
  exact txts_own ho2
 obtain ⟨A3, c3, e3, hTR, _⟩ := T2.form
 rw [HL.out] at e3
 injection e3 with q1 q2 q3
 subst q1 q3
 have DC := Hh (dcheck_any A2 c2 n w2 hTR (by rw [HL.out]; omega))
 rw [HL.out] at DC
 have HT := Hh T2
 clear ho1 hg2 H1 RB1 ho2 T2 hTR
 obtain ⟨ck, hck⟩ : ∃ ck, Hid (checkN n = ck) := ⟨_, Hh rfl⟩
 rw [hck.out] at DC
 go_wp2_with fail
 refine DC.out.mono ?_
 rintro _ w3 ⟨rfl, rfl⟩
 by_cases h0 : ck = 0
 ·
  subst h0
  go_wp2_with fail
  go_ret2
  exact ⟨_, _, _, by rw [hck.out]; rfl, fun _ => ⟨HT.out, hck.out⟩, H2⟩
 ·
  have h0' : (ck != 0) = true := by simpa using h0
  have HN : Hid (checkN n ≠ 0) := Hh (by rw [hck.out]; exact h0)
  clear h0
  go_wp2_with fail
  go_ret2
  exact ⟨_, _, _, by rw [hck.out]; rfl, fun h => absurd h HN.out, H2⟩
theorem parse_ne {s : List UInt8} {e : Int} (h : parse s = .error e) : (e != 0) = true := by
 unfold parse at h
 split at h
 ·
  cases h
 split at h
 ·
  cases h; rfl
 split at h
 ·
  rename_i e' h1
  cases h
  have key : ∀ (f : Nat) (s : List UInt8) (n : List (List UInt8)) (e : Int), pars f s n = .error e → e = 5 ∨ e = 7 ∨ e = 8 := by
   intro f
   induction f with
   | zero => intro s n e h; cases h
   | succ f ih =>
    intro s n e h
    cases ho : lab1 (lab s []) with
    | error x => rw [pars_bad ho] at h; cases h; exact lab1_err ho
    | ok x =>
     obtain ⟨b, r⟩ := x
     by_cases hr : r.length ≤ 1
     ·
      rw [pars_end ho hr] at h; cases h
     ·
      rw [pars_more ho hr] at h; exact ih _ _ _ h
  rcases key _ _ _ _ h1 with h | h | h <;> (subst h; rfl)
 ·
  split at h
  ·
   cases h; rfl
  ·
   cases h
def CdI (w : World) (cs : List Value) (n : List (List UInt8)) : Prop := ∃ v, cs = [v] ∧ NmO w v n
abbrev CdsO (w : World) (B : Nat) (v : Value) (l : List (List (List UInt8))) : Prop := LOwn w B 81 1 (CdI w) v l
theorem CdI.stays {w w' : World} {cs : List Value} {n : List (List UInt8)} (h : CdI w cs n) (k : Stays w w') : CdI w' cs n := by
 obtain ⟨v, h1, h2⟩ := h
 exact ⟨v, h1, h2.stays k⟩
theorem CdsO.below {w w' : World} {B : Nat} {v : Value} {l : List (List (List UInt8))} (h : CdsO w B v l) (k : Below w.heap.size w w') : CdsO w' B v l := LOwn.below h k (fun _ _ x => x.stays (Stays.below k))
theorem CdI.len {w : World} {cs : List Value} {n : List (List UInt8)} (h : CdI w cs n) : cs.length = 1 := by obtain ⟨v, rfl, _⟩ := h; rfl
def CdRet (x : Except Int (List (List UInt8) × Bool)) (w : World) (e : Ending) (w' : World) : Prop := Below w.heap.size w w' ∧ ((e = .returned (.tuple #[.slice none 0 0, .int .i64 8]) ∧ ∀ n d, x = .ok (n, d) → n = []) ∨ ∃ n d A c l, x = .ok (n, d) ∧ n ≠ [] ∧ e = .returned (.tuple #[.slice A (l : List (List (List UInt8))).length c, .int .i64 0]) ∧ CdsO w' 0 (.slice A l.length c) l ∧ l ≠ [] ∧ l.length ≤ 7)
set_option maxHeartbeats 4000000 in
theorem cands_any (w0 : World) (cs : List Value) (r : Rs) (s : List UInt8) (w : World) (h : RsIn w0 w cs r) (hw : Below w0.heap.size w0 w) (hs : s.length ≤ 1000000) :
  Calls prog 95 #[.agg cs.toArray, .string (bs s)] w (CdRet (parse s) w) := by
 have hcl := h.len
 have PA := Hh (fun W => parse_any s hs W)
 have HD := Hh (fun W (hb : Below w.heap.size w W) => setHeld_in w0 cs r W (h.below hb) (below_then hw hw.size hb))
 have RB : Hid (∀ W, (Instr.build 42 #[(0, .agg cs.toArray)]).run prog W = .ok (.agg (cs ++ [nilS, nilS, nilS]).toArray) W) := Hh (fun W => by obtain ⟨A1, c1, A2, c2, A3, c3, rfl, _⟩ := h; exact rs_build ..)
 have HX : Below w.heap.size w (w.alloc (.cells cs.toArray 37)) := (Below.refl _ _).alloc (Nat.le_refl _) _
 have X := Blk.new w 37 cs
 have hse : (heldR r).se.length ≤ 6 := by show (leftP nmOk r.se 6).length ≤ 6; unfold leftP; simp; omega
 have hsl : ∀ x ∈ (heldR r).se, x.length ≤ 100000 := by
  intro x hx
  have h1 : x ∈ (r.se.filter nmOk).take 6 := hx
  have h2 := (List.mem_filter.1 (List.mem_of_mem_take h1)).2
  unfold nmOk at h2
  simp only [Bool.and_eq_true, decide_eq_true_eq, beq_iff_eq] at h2
  have := (checkN_ok h2.2).2
  have := lsum_ge x
  omega
 have HSL := Hh hsl
 clear hsl
 have HW := Hh hw
 obtain ⟨P, hP⟩ : ∃ P, Hid (parse s = P) := ⟨_, Hh rfl⟩
 have PN := Hh (fun e (h : parse s = .error e) => parse_ne h)
 have PO := Hh (fun n d (h : parse s = .ok (n, d)) => parse_ok h)
 rw [hP.out] at PA PN PO ⊢
 clear h hw hs hP
 go_enter func95, ntmps95
 go_wp2_with fail
 refine (PA.out _).mono ?_
 intro e1 w1 hp
 cases P with
 | error k =>
  obtain ⟨rfl, b1⟩ := hp
  have hk := PN.out k rfl
  have H1 := below_then HX HX.size b1
  clear PA HD RB X PN PO
  go_wp2_with fail
  go_ret2
  exact ⟨H1, .inl ⟨rfl, fun n d c => by cases c⟩⟩
 | ok nd =>
 obtain ⟨n, d⟩ := nd
 obtain ⟨v, rfl, hT, b1⟩ := hp
 obtain ⟨p1, p2, p3, -⟩ := PO.out n d rfl
 have H1 := below_then HX HX.size b1
 have X1 := X.below b1 X.lt
 have N1 : NmO w1 v n := ⟨hT, p1⟩
 obtain ⟨A, c, hv, hNR⟩ := N1.form
 subst hv
 have hn255 : n.length ≤ 255 := by have := lsum_ge n; omega
 have HN1 := Hh N1
 clear PA PN PO X b1 hT hNR p1 p2 p3 HX N1
 by_cases h0 : n = []
 ·
  subst h0
  clear HD RB X1
  go_wp2_with fail
  go_ret2
  exact ⟨H1, .inl ⟨rfl, fun n d c => by injection c with c; injection c with c1 c2; exact c1.symm⟩⟩
 have hnp : 0 < n.length := List.length_pos_iff.2 h0
 have h0' : ((n.length : Int) == 0) = false := by simp; omega
 have HN0 := Hh h0
 clear h0
 cases d with
 | true =>
  have kz : Below w1.heap.size w1 (w1.alloc (.cells #[.slice A n.length c] 81)) := (Below.refl _ _).alloc (Nat.le_refl _) _
  have O2 : CdsO (w1.alloc (.cells #[.slice A n.length c] 81)) 0 (.slice (some ⟨w1.heap.size, 0, none⟩) ([n] : List (List (List UInt8))).length 1) [n] := LOwn.one 1 (Blk.new w1 81 [.slice A n.length c]) rfl ⟨_, rfl, HN1.out.stays (Stays.below kz)⟩
  have HO2 := Hh O2
  have H2 := below_then H1 H1.size kz
  clear HD RB X1 O2 kz
  go_wp2_with fail
  go_ret2
  exact ⟨H2, .inr ⟨n, true, _, _, [n], rfl, HN0.out, rfl, HO2.out, by simp, by simp⟩⟩
 | false =>
 have HD1 := Hh (HD.out w1 H1)
 go_wp2_with (first
  | (refine at_op (.load 37 (.tmp 2)) rfl ?_; go_must (refine wpList_ldB rfl _ _ rfl w.heap.size 0 rfl X1 10 (by omega) _ underlying37 rfl rsI10 cs (tk0 (by omega)) ?_))
  | (refine at_op (.build 42 #[(0, .tmp 31)]) rfl ?_; go_must (refine wpList_bld rfl 42 _ rfl #[(0, .agg cs.toArray)] (by simp [Act.eval, Act.put]) (RB.out _) ?_)))
 refine HD1.out.mono ?_
 rintro _ w2 ⟨T, u1, u2, u3, rfl, RO, b2⟩
 have hT10 := RO.len
 have hT1 := RO.one
 have X2 := X1.below b2 X1.lt
 have H2 := below_then H1 H1.size b2
 have N2 := Hh (HN1.out.stays (Stays.below b2))
 have HRO := Hh RO
 clear HD HD1 RB X1 b2 HN1 RO H1
 go_wp2_with (first
  | (refine at_op (.field 42 (.tmp 33) 0) rfl ?_; go_must (refine wpList_fld rfl 42 (.tmp 33) 0 rfl rfl (fill_10 T hT10 u1 u2 u3 _) ?_))
  | (refine at_op (.store 37 (.tmp 2) (.tmp 34)) rfl ?_; go_must (refine wpList_stB rfl _ _ _ rfl w.heap.size 0 rfl T rfl X2 (by omega) (by rw [hT10]; exact rsI10) hT1 ?_)))
 intro w3 X3 g3 sw
 clear sw
 have X3' : Blk w3 w.heap.size 37 T := blkAll X3 (by omega)
 have H3 := below_grown H2 g3 H2.size (Nat.le_refl _)
 have N3 := Hh (N2.out.stays (Stays.blk g3 X2 (by decide)))
 obtain ⟨v1, v2, v3, hTe, r1, r2, r3⟩ := HRO.out
 have r2 := r2.blk g3 X2 (by decide)
 obtain ⟨Ase, cse, hv2⟩ := r2.form
 subst hv2
 have d1 : w3.cell? ⟨w.heap.size, 1, none⟩ = some (.slice Ase (heldR r).se.length cse) := X3'.cell_ 1 (by rw [hTe]; rfl)
 have d3 : w3.cell? ⟨w.heap.size, 3, none⟩ = some (.int .i64 (heldR r).nd) := X3'.cell_ 3 (by rw [hTe]; rfl)
 have hltw := X3'.lt
 have HSE := Hh (r2.lin (fun _ _ ⟨_, _, h, _⟩ => by rw [h]; rfl))
 have HWB := Hh (below_then HW.out HW.out.size H3)
 obtain ⟨W3, hW3⟩ : ∃ W3, Hid (w3 = W3) := ⟨_, Hh rfl⟩
 clear X2 X3 X3' g3 hT1 hT10 hTe r1 r2 r3 HRO N2 H2
 generalize (heldR r).nd = ndv at *
 generalize (heldR r).se = ses at *
 obtain ⟨f, hf⟩ : ∃ f, decide (ndv ≤ (n.length : Int) - 1) = f := ⟨_, rfl⟩
 have hff : ndv ≤ (n.length : Int) - 1 ↔ f = true := by rw [← hf]; simp
 obtain ⟨q, hq⟩ : ∃ q : Nat, q = if f then 1 else 0 := ⟨_, rfl⟩
 have HQ := Hh hq
 have hq1 : q ≤ 1 := by rw [hq]; split <;> omega
 clear hq
 go_upto_if 41 with fail
 go_cut [10] (fun lv wx => ∃ (l : List (List (List UInt8))) (Al : Option Addr) (cl : Nat), lv = .slice Al l.length cl ∧ Hid (CdsO wx w3.heap.size (.slice Al l.length cl) l) ∧ l.length ≤ q ∧ Hid (f = true → l ≠ []) ∧ Below w3.heap.size w3 wx)
 case first =>
  cases f with
  | false =>
   go_wp2_with fail
   go_meet
   case rel => exact ⟨[], none, 0, rfl, Hh (LOwn.nil _ _ _ _ _), Nat.zero_le _, Hh (fun c => by cases c), Below.refl _ _⟩
  | true =>
   obtain ⟨l, hle⟩ : ∃ l : List (List (List UInt8)), l = [] := ⟨_, rfl⟩
   have hl0 : l.length = 0 := by rw [hle]; rfl
   have HO : Hid (CdsO w3 w3.heap.size (.slice none 0 0) l) := Hh (by rw [hle]; exact LOwn.nil _ _ _ _ _)
   have HB := Below.refl w3.heap.size w3
   clear hle
   have kz : Below (w3).heap.size w3 ((w3).alloc (.cells #[(.slice A n.length c)] 81)) := (Below.refl _ _).alloc (Nat.le_refl _) _
   have HOz := Hh (CdsO.below HO.out kz)
   have Nz := Hh (NmO.stays N3.out (Stays.below kz))
   have HBz := below_then HB HB.size kz
   have hBs := HB.size
   go_wp2_with (at_builtin; go_must (refine wpList_app1 _ rfl (.tmp 42) (.tmp 44) 34 rfl 81 _ 1 24 underlying34 nmInfo3 (by kernel_rfl) (by decide) w3.heap.size _ l rfl HOz.out HBz.size (w3).heap.size [(.slice A n.length c)] n rfl (Blk.new _ _ _) (LOwn.ne HO.out (Nat.le_refl _)) rfl (by simp [Value.oneCell']) ⟨_, rfl, Nz.out⟩ (by simp only [maxLen]; omega) (by omega) ?_))
   intro v2 w8 O8 g8
   have K8 : Stays ((w3).alloc (.cells #[(.slice A n.length c)] 81)) w8 := by obtain ⟨css, ho5, _⟩ := HOz.out; exact Stays.own ho5 (by decide) g8
   have O8' := Hh (LOwn.stays (R' := CdI w8) O8 (fun _ x => x) (fun _ _ x => x.stays K8))
   have H8 := HBz.grown g8 HBz.size HOz.out.base
   obtain ⟨A8, c8, hv8⟩ := O8'.out.form
   have hl8 : (l ++ [n]).length = l.length + 1 := by simp
   obtain ⟨l8, hl8'⟩ : ∃ l8, l ++ [n] = l8 := ⟨_, rfl⟩
   have HNE : Hid (l8 ≠ []) := Hh (by rw [← hl8']; simp)
   rw [hl8'] at O8' hv8 hl8
   subst hv8
   clear kz HOz Nz HBz O8 g8 K8 HO HB
   go_wp2_with fail
   go_meet
   case rel => exact ⟨l8, A8, c8, rfl, O8', by have := HQ.out; simp at this; omega, Hh (fun _ => HNE.out), H8⟩
 obtain ⟨l, Al, cl, rfl, HO, hl1, HF, HB⟩ := hcut
 obtain ⟨w4, rfl⟩ : ∃ w4, w4 = wc := ⟨_, rfl⟩
 have e1 := (HB.cell (p := ⟨w.heap.size, 1, none⟩) hltw).trans d1
 clear d1 d3
 go_wp2_with fail
 go_loopw [10, 49] (fun lv iv wr => ∃ (k : Nat) (l : List (List (List UInt8))) (Al : Option Addr) (cl : Nat), k ≤ ses.length ∧ iv = .int .i64 k ∧ lv = .slice Al l.length cl ∧ Hid (CdsO wr w3.heap.size (.slice Al l.length cl) l) ∧ l.length ≤ k + q ∧ Hid (f = true → l ≠ []) ∧ Below w3.heap.size w3 wr) (fun _ iv _ => ses.length - (intOf iv).toNat)
 case atStart => exact ⟨0, l, Al, cl, Nat.zero_le _, rfl, rfl, HO, by omega, HF, HB⟩
 clear HO HF HB hl1 e1
 obtain ⟨k, l, Al, cl, hk, rfl, rfl, HO, hl1, HF, HB⟩ := hrel
 by_cases hlt : k < ses.length
 case pos =>
  have hlt' : (k : Int) < ses.length := by omega
  obtain ⟨b, off, rfl, hb, hr⟩ := HSE.out (by omega)
  obtain ⟨cx, hcx, Ax, c2, rfl, hnx⟩ := hr k hlt
  have ce := (HB.cell (p := ⟨b, off + k, none⟩) hb).trans (by simpa using hcx 0 _ rfl)
  have hnl := hnx.2.2.1
  have CT := Hh (cat_any A Ax c c2 n ses[k] wr (by obtain ⟨A', c', e', h'⟩ := (N3.out.stays (Stays.below HB)).form; injection e' with q1 q2 q3; subst q1 q3; exact h') (hnx.below (below_then HWB.out HWB.out.size HB)) (by omega) (HSL.out _ (List.getElem_mem hlt)))
  obtain ⟨m, hm⟩ : ∃ m, Hid (n ++ ses[k] = m) := ⟨_, Hh rfl⟩
  rw [hm.out] at CT
  unfold CatRet at CT
  obtain ⟨nl, hnl'⟩ : ∃ nl, ses[k].length = nl := ⟨_, rfl⟩
  rw [hnl'] at CT ce hnl
  clear hnx hr hcx hnl'
  go_wp2_with fail
  refine CT.out.mono ?_
  rintro _ w5 ⟨Ac, nc, cc, rfl, hNc, b5⟩
  have HO := Hh (CdsO.below HO.out b5)
  have HB := below_then HB HB.size b5
  have HNC := Hh hNc
  clear CT b5 hNc
  by_cases hck : checkN m = 0
  ·
   have hck' : (checkN m == 0) = true := by simpa using hck
   have NC := Hh (HNC.out hck)
   clear hck HNC
   have kz : Below (w5).heap.size w5 ((w5).alloc (.cells #[(.slice Ac nc cc)] 81)) := (Below.refl _ _).alloc (Nat.le_refl _) _
   have HOz := Hh (CdsO.below HO.out kz)
   have Nz := Hh (NmO.stays NC.out (Stays.below kz))
   have HBz := below_then HB HB.size kz
   have hBs := HB.size
   go_wp2_with (at_builtin; go_must (refine wpList_app1 _ rfl (.tmp 61) (.tmp 63) 34 rfl 81 _ 1 24 underlying34 nmInfo3 (by kernel_rfl) (by decide) w3.heap.size _ l rfl HOz.out HBz.size (w5).heap.size [(.slice Ac nc cc)] m rfl (Blk.new _ _ _) (LOwn.ne HO.out (Nat.le_refl _)) rfl (by simp [Value.oneCell']) ⟨_, rfl, Nz.out⟩ (by simp only [maxLen]; omega) (by omega) ?_))
   intro v2 w8 O8 g8
   have K8 : Stays ((w5).alloc (.cells #[(.slice Ac nc cc)] 81)) w8 := by obtain ⟨css, ho5, _⟩ := HOz.out; exact Stays.own ho5 (by decide) g8
   have O8' := Hh (LOwn.stays (R' := CdI w8) O8 (fun _ x => x) (fun _ _ x => x.stays K8))
   have H8 := HBz.grown g8 HBz.size HOz.out.base
   obtain ⟨A8, c8, hv8⟩ := O8'.out.form
   have hl8 : (l ++ [m]).length = l.length + 1 := by simp
   obtain ⟨l8, hl8'⟩ : ∃ l8, l ++ [m] = l8 := ⟨_, rfl⟩
   have HNE : Hid (l8 ≠ []) := Hh (by rw [← hl8']; simp)
   rw [hl8'] at O8' hv8 hl8
   subst hv8
   clear kz HOz Nz HBz O8 g8 K8 HO HB
   go_wp2_with fail
   go_roundw
   case rel => exact ⟨k + 1, l8, A8, c8, by omega, by go_num, rfl, O8', by omega, Hh (fun _ => HNE.out), H8⟩
   case measure => simp [intOf]; omega
  ·
   have hck' : (checkN m == 0) = false := by simpa using hck
   clear hck HNC
   go_wp2_with fail
   go_roundw
   case rel => exact ⟨k + 1, l, Al, cl, by omega, by go_num, rfl, HO, by omega, HF, HB⟩
   case measure => simp [intOf]; omega
 have hlt' : ¬ (k : Int) < ses.length := by omega
 clear HSE
 cases f with
 | true =>
  have hne := HF.out rfl
  have HNL := Hh hne
  clear hne HF
  go_wp2_with fail
  go_ret2
  exact ⟨below_then H3 H3.size HB, .inr ⟨n, false, _, _, l, rfl, HN0.out, rfl, LOwn.zero HO.out, HNL.out, by omega⟩⟩
 | false =>
  have hq0 : q = 0 := by have := HQ.out; simpa using this
  have N4 := Hh (N3.out.stays (Stays.below HB))
  have kz : Below (wr).heap.size wr ((wr).alloc (.cells #[(.slice A n.length c)] 81)) := (Below.refl _ _).alloc (Nat.le_refl _) _
  have HOz := Hh (CdsO.below HO.out kz)
  have Nz := Hh (NmO.stays N4.out (Stays.below kz))
  have HBz := below_then HB HB.size kz
  have hBs := HB.size
  go_wp2_with (at_builtin; go_must (refine wpList_app1 _ rfl (.tmp 68) (.tmp 70) 34 rfl 81 _ 1 24 underlying34 nmInfo3 (by kernel_rfl) (by decide) w3.heap.size _ l rfl HOz.out HBz.size (wr).heap.size [(.slice A n.length c)] n rfl (Blk.new _ _ _) (LOwn.ne HO.out (Nat.le_refl _)) rfl (by simp [Value.oneCell']) ⟨_, rfl, Nz.out⟩ (by simp only [maxLen]; omega) (by omega) ?_))
  intro v2 w8 O8 g8
  have K8 : Stays ((wr).alloc (.cells #[(.slice A n.length c)] 81)) w8 := by obtain ⟨css, ho5, _⟩ := HOz.out; exact Stays.own ho5 (by decide) g8
  have O8' := Hh (LOwn.stays (R' := CdI w8) O8 (fun _ x => x) (fun _ _ x => x.stays K8))
  have H8 := HBz.grown g8 HBz.size HOz.out.base
  obtain ⟨A8, c8, hv8⟩ := O8'.out.form
  have hl8 : (l ++ [n]).length = l.length + 1 := by simp
  obtain ⟨l8, hl8'⟩ : ∃ l8, l ++ [n] = l8 := ⟨_, rfl⟩
  have HNE : Hid (l8 ≠ []) := Hh (by rw [← hl8']; simp)
  rw [hl8'] at O8' hv8 hl8
  subst hv8
  clear kz HOz Nz HBz O8 g8 K8 HO HB
  go_wp2_with fail
  go_ret2
  exact ⟨below_then H3 H3.size H8, .inr ⟨n, false, _, _, l8, rfl, HN0.out, rfl, LOwn.zero O8'.out, HNE.out, by omega⟩⟩
end Go.Proofs.YteimenplbanooaaGreatDoor
