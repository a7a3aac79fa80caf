/-
  Layer 5, plainly: which name a text is.
-/
import Derived.Test.YtkcbffldncmbcaaGreatDoorGIq
namespace Go.Proofs.YtkcbffldncmbcaaGreatDoor
open _root_.Go.Proofs.Tryz
open Go.RowKit
set_option maxRecDepth 100000
set_option linter.unusedVariables false
set_option linter.unusedSimpArgs false
def digsF : Nat → Nat → List UInt8 → List UInt8
 | 0, _, s => s
 | f + 1, m, s => if m = 0 then s else digsF f (m / 10) (([48, 49, 50, 51, 52, 53, 54, 55, 56, 57] : List UInt8).getD (m % 10) 0 :: s)
def rdig (n : Nat) : List UInt8 := if n = 0 then [48] else digsF 20 n []
theorem rdigits_any (n : Nat) (hn : n ≤ 1000000) (w : World) : Calls prog 31 #[.int .i64 n] w (Ret (.string (bs (rdig n))) w) := by
 obtain ⟨R, hR⟩ : ∃ R, Hid (rdig n = R) := ⟨_, Hh rfl⟩
 rw [hR.out]
 by_cases h0 : n = 0
 case pos =>
  subst h0
  obtain rfl : R = [48] := by rw [← hR.out]; rfl
  go_enter func31, ntmps31
  go_wp2_with fail
  go_ret
  exact ⟨rfl, rfl⟩
 have hF : Hid (digsF 20 n [] = R) := Hh (by rw [← hR.out]; unfold rdig; rw [if_neg h0])
 have h0' : (((n : Nat) : Int) == 0) = false := by simp; omega
 have hneg : ¬ ((n : Nat) : Int) < 0 := by omega
 clear hR
 go_enter func31, ntmps31
 go_wp2_with fail
 go_loopw [3, 4, 5] (fun mv sv iv wr => ∃ (k m : Nat) (s : List UInt8), k ≤ 20 ∧ m ≤ 1000000 ∧ s.length ≤ k ∧ mv = .int .u64 m ∧ sv = .string (bs s) ∧ iv = .int .i64 k ∧ Hid (digsF (20 - k) m s = R) ∧ wr = w) (fun _ _ iv _ => 20 - (intOf iv).toNat)
 case atStart => exact ⟨0, n, [], by omega, hn, Nat.zero_le _, by first | rfl | (congr 1; done) | go_num, rfl, rfl, hF, rfl⟩
 clear hF h0 h0' hneg
 obtain ⟨k, m, s, hk, hm, hs, rfl, rfl, rfl, HD, hwr⟩ := hrel
 subst hwr
 by_cases hc : k < 20 ∧ 0 < m
 case pos =>
  have c1 : (k : Int) < 20 := by omega
  have c2 : (0 : Int) < m := by omega
  obtain ⟨d, hd⟩ : ∃ d, Hid (([48, 49, 50, 51, 52, 53, 54, 55, 56, 57] : List UInt8).getD (m % 10) 0 = d) := ⟨_, Hh rfl⟩
  have he : ByteArray.extract { data := #[48, 49, 50, 51, 52, 53, 54, 55, 56, 57] } (m % 10) (m % 10 + 1) = bs [d] := by
   rw [← hd.out]
   have h10 : m % 10 < 10 := Nat.mod_lt _ (by decide)
   generalize m % 10 = j at *
   match j, h10 with
   | 0, _ | 1, _ | 2, _ | 3, _ | 4, _ | 5, _ | 6, _ | 7, _ | 8, _ | 9, _ => rfl
  have HN : Hid (digsF (20 - (k + 1)) (m / 10) (d :: s) = R) := Hh (by
   rw [← HD.out, show 20 - k = (20 - (k + 1)) + 1 by omega, ← hd.out]
   show _ = if m = 0 then s else _
   rw [if_neg (by omega)])
  clear HD hd
  go_wp2_with fail
  exact ⟨⟨k + 1, m / 10, d :: s, by omega, by omega, by simp; omega, by congr 1, by rfl, by congr 1, HN, trivial⟩, by simp [intOf]; omega⟩
 have HS : Hid (s = R) := Hh (by
  rw [← HD.out]
  by_cases h : m = 0
  ·
   cases hk' : 20 - k with
   | zero => rfl
   | succ f => unfold digsF; rw [if_pos h]
  ·
   rw [show 20 - k = 0 by omega]; rfl)
 by_cases hk2 : k < 20
 case pos =>
  obtain rfl : m = 0 := by omega
  have c1 : (k : Int) < 20 := by omega
  go_wp2_with fail
  go_ret
  rw [← HS.out]
  exact ⟨rfl, rfl⟩
 case neg =>
  have c1 : ¬ (k : Int) < 20 := by omega
  go_wp2_with fail
  go_ret
  rw [← HS.out]
  exact ⟨rfl, rfl⟩
def escB (c : UInt8) : List UInt8 := if c = 46 ∨ c = 92 then [92, c] else if 33 ≤ c.toNat ∧ c.toNat ≤ 126 then [c] else [92, UInt8.ofNat (48 + c.toNat / 100), UInt8.ofNat (48 + c.toNat / 10 % 10), UInt8.ofNat (48 + c.toNat % 10)]
def labB (l : List UInt8) : List UInt8 := l.flatMap escB
def restB (ls : List (List UInt8)) : List UInt8 := ls.flatMap (fun l => 46 :: labB l)
def joinB : List (List UInt8) → List UInt8
 | [] => []
 | l :: ls => labB l ++ restB ls
theorem escB_len (c : UInt8) : 1 ≤ (escB c).length ∧ (escB c).length ≤ 4 := by
 unfold escB
 split
 ·
  exact ⟨by simp, by simp⟩
 ·
  split
  ·
   exact ⟨by simp, by simp⟩
  ·
   exact ⟨by simp, by simp⟩
theorem labB_len (l : List UInt8) : l.length ≤ (labB l).length ∧ (labB l).length ≤ 4 * l.length := by
 induction l with
 | nil => exact ⟨by simp, by simp [labB]⟩
 | cons c l ih =>
  have := escB_len c
  have e : labB (c :: l) = escB c ++ labB l := rfl
  rw [e, List.length_append, List.length_cons]
  omega
theorem restB_len (ls : List (List UInt8)) : ls.length ≤ (restB ls).length ∧ (restB ls).length ≤ 4 * lsum ls := by
 induction ls with
 | nil => exact ⟨by simp, by simp [restB]⟩
 | cons l ls ih =>
  have := labB_len l
  have e : restB (l :: ls) = 46 :: (labB l ++ restB ls) := by simp [restB]
  have e2 : lsum (l :: ls) = l.length + 1 + lsum ls := by simp [lsum]
  rw [e]
  simp only [List.length_cons, List.length_append]
  omega
theorem joinB_len (ls : List (List UInt8)) : (joinB ls).length ≤ 4 * lsum ls := by
 cases ls with
 | nil => simp [joinB]
 | cons l ls =>
  have h1 := labB_len l
  have h2 := restB_len ls
  have e2 : lsum (l :: ls) = l.length + 1 + lsum ls := by simp [lsum]
  simp only [joinB, List.length_append]
  omega
theorem joinB_snoc (ls : List (List UInt8)) (l : List UInt8) : joinB (ls ++ [l]) = joinB ls ++ (if ls = [] then [] else [46]) ++ labB l := by
 cases ls with
 | nil => simp [joinB, restB]
 | cons a ls => simp [joinB, restB, List.flatMap_append]
theorem labB_snoc (l : List UInt8) (c : UInt8) : labB (l ++ [c]) = labB l ++ escB c := by simp [labB, List.flatMap_append]
theorem rdig10 (k : Nat) (h : k ≤ 9) : rdig k = [UInt8.ofNat (48 + k)] := by
 match k, h with
 | 0, _ | 1, _ | 2, _ | 3, _ | 4, _ | 5, _ | 6, _ | 7, _ | 8, _ | 9, _ => rfl
def preB (n : List (List UInt8)) (i : Nat) : List UInt8 := joinB (n.take i) ++ (if i = 0 then [] else [46])
theorem preB_next {n : List (List UInt8)} {i : Nat} (h : i < n.length) : preB n i ++ labB n[i] = joinB (n.take (i + 1)) := by
 rw [List.take_succ_eq_append_getElem h, joinB_snoc]
 unfold preB
 congr 2
 by_cases h0 : i = 0
 ·
  subst h0; simp
 ·
  rw [if_neg h0, if_neg]
  intro e
  have := congrArg List.length e
  rw [List.length_take, List.length_nil] at this
  omega
theorem labB_next {l : List UInt8} {k : Nat} (h : k < l.length) : labB (l.take (k + 1)) = labB (l.take k) ++ escB l[k] := by rw [List.take_succ_eq_append_getElem h, labB_snoc]
theorem sl_one {l : List UInt8} {k : Nat} (h : k < l.length) : (l.drop k).take 1 = [l[k]] := by rw [List.drop_eq_getElem_cons h]; rfl
theorem lsum_tk (n : List (List UInt8)) (i : Nat) : lsum (n.take i) ≤ lsum n := by
 have := lsum_app (n.take i) (n.drop i)
 rw [List.take_append_drop] at this
 omega
theorem lsum_mem : ∀ (n : List (List UInt8)) (l : List UInt8), l ∈ n → l.length + 1 ≤ lsum n := by
 intro n
 induction n with
 | nil => intro l h; simp at h
 | cons a n ih =>
  intro l h
  have e : lsum (a :: n) = a.length + 1 + lsum n := rfl
  rcases List.mem_cons.1 h with rfl | h
  ·
   omega
  ·
   have := ih l h; omega
set_option maxHeartbeats 4000000 in
theorem rplain4_any (A : Option Addr) (ca : Nat) (n : List (List UInt8)) (w : World) (hA : NmR w A ca n) (hn : lsum n ≤ 400) (hne : n ≠ []) :
  Calls prog 52 #[.slice A n.length ca] w (Ret (.string (bs (joinB n))) w) := by
 obtain ⟨tA, cA, lA, mA⟩ := hA
 have DG := Hh (fun (k : Nat) (h : k ≤ 1000000) W => rdigits_any k h W)
 have JL := Hh (fun i => Nat.le_trans (joinB_len (n.take i)) (Nat.mul_le_mul_left 4 (lsum_tk n i)))
 have hpos : 0 < n.length := List.length_pos_iff.2 hne
 have HL := Hh (lsum_mem n)
 go_enter func52, ntmps52
 go_wp2_with fail
 go_loopw [3, 4] (fun sv iv wr => ∃ i : Nat, i ≤ n.length ∧ iv = .int .i64 i ∧ sv = .string (bs (joinB (n.take i))) ∧ wr = w) (fun _ iv _ => n.length - (intOf iv).toNat)
 case atStart => exact ⟨0, Nat.zero_le _, rfl, rfl, rfl⟩
 obtain ⟨i, hi, rfl, rfl, hwr⟩ := hrel
 subst hwr
 by_cases hlt : i < n.length
 case pos =>
  have hlt' : (i : Int) < n.length := by omega
  obtain ⟨ba, oa, rfl, la, xa⟩ := tA (by omega)
  have c1 : wr.cell? ⟨ba, oa + i, none⟩ = some (.string (bs n[i])) := xa i hlt
  have hJ : (joinB (n.take i)).length ≤ 1600 := Nat.le_trans (JL.out i) (Nat.mul_le_mul_left 4 hn)
  have PN := preB_next hlt
  have hl63 : n[i].length ≤ 399 := by have := HL.out _ (List.getElem_mem hlt); omega
  have hP : (preB n i).length ≤ 1601 := by
   unfold preB
   rw [List.length_append]
   split
   ·
    simp; omega
   ·
    simp; omega
  have hPd : Hid (preB n i = joinB (n.take i) ++ (if i = 0 then [] else [46])) := Hh rfl
  obtain ⟨J1, HJ1⟩ : ∃ J1, Hid (joinB (n.take (i + 1)) = J1) := ⟨_, Hh rfl⟩
  rw [HJ1.out] at PN
  replace PN := Hh PN
  generalize preB n i = P at *
  generalize joinB (n.take i) = J at *
  generalize n[i] = l at *
  clear xa JL
  go_upto_if 14 with fail
  go_cut [3] (fun sv wx => sv = .string (bs P) ∧ wx = wr)
  case first =>
   by_cases h0 : i = 0
   case pos =>
    subst h0
    have : P = J := by rw [hPd.out, if_pos rfl, List.append_nil]
    subst this
    go_wp2_with fail
    go_meet
    case rel => exact ⟨rfl, rfl⟩
   have h0' : (0 : Int) < i := by omega
   have hb46 : bs P = bs J ++ ⟨#[46]⟩ := by rw [hPd.out, if_neg h0]; rfl
   have HB46 := Hh hb46
   clear h0 PN hPd hP hb46
   go_wp2_with fail
   go_meet
   case rel => exact ⟨by rw [HB46.out]; rfl, rfl⟩
  obtain ⟨rfl, rfl⟩ := hcut
  clear hPd hJ
  go_wp2_with fail
  go_loopw [3, 5] (fun sv iv wx => ∃ k : Nat, k ≤ l.length ∧ iv = .int .i64 k ∧ sv = .string (bs (P ++ labB (l.take k))) ∧ wx = wc) (fun _ iv _ => l.length - (intOf iv).toNat)
  case atStart => exact ⟨0, Nat.zero_le _, rfl, by simp [labB], rfl⟩
  obtain ⟨k, hk, rfl, rfl, hwx⟩ := hrel
  subst hwx
  by_cases hlk : k < l.length
  case pos =>
   have hlk' : (k : Int) < l.length := by omega
   have hQ : (P ++ labB (l.take k)).length ≤ 3300 := by
    have := (labB_len (l.take k)).2
    rw [List.length_append]
    have h3 : (l.take k).length ≤ l.length := by simp; omega
    omega
   have HQ1 : Hid (P ++ labB (l.take (k + 1)) = (P ++ labB (l.take k)) ++ escB l[k]) := Hh (by rw [labB_next hlk, List.append_assoc])
   generalize P ++ labB (l.take k) = Q at *
   have hSl : (l.take (k + 1)).drop k = [l[k]] := by rw [List.drop_take, show k + 1 - k = 1 by omega]; exact sl_one hlk
   have hc := (l[k]).toNat_lt
   by_cases h46 : l[k] = 46
   case pos =>
    have HX : Hid (P ++ labB (l.take (k + 1)) = Q ++ 92 :: (l.take (k + 1)).drop k) := Hh (by rw [HQ1.out, hSl]; unfold escB; rw [if_pos (.inl h46)])
    have e46 : ((l[k]).toNat : Int) = 46 := by rw [h46]; rfl
    clear HQ1 hSl h46
    go_wp2_with fail
    exact ⟨⟨k + 1, by omega, by congr 1, by rw [HX.out], trivial⟩, by simp [intOf]; omega⟩
   have n46 : ¬ ((l[k]).toNat : Int) = 46 := fun h => h46 (UInt8.toNat_inj.1 (by show _ = 46; omega))
   by_cases h92 : l[k] = 92
   case pos =>
    have HX : Hid (P ++ labB (l.take (k + 1)) = Q ++ 92 :: (l.take (k + 1)).drop k) := Hh (by rw [HQ1.out, hSl]; unfold escB; rw [if_pos (.inr h92)])
    have e92 : ((l[k]).toNat : Int) = 92 := by rw [h92]; rfl
    clear HQ1 hSl h46 h92
    go_wp2_with fail
    exact ⟨⟨k + 1, by omega, by congr 1, by rw [HX.out], trivial⟩, by simp [intOf]; omega⟩
   have n92 : ¬ ((l[k]).toNat : Int) = 92 := fun h => h92 (UInt8.toNat_inj.1 (by show _ = 92; omega))
   have hor : ¬ (l[k] = 46 ∨ l[k] = 92) := fun h => h.elim h46 h92
   have q46 : (((l[k]).toNat : Int) == 46) = false := by simpa using n46
   have q92 : (((l[k]).toNat : Int) == 92) = false := by simpa using n92
   clear h46 h92 n46 n92
   by_cases hpr : 33 ≤ (l[k]).toNat ∧ (l[k]).toNat ≤ 126
   case pos =>
    have HX : Hid (P ++ labB (l.take (k + 1)) = Q ++ (l.take (k + 1)).drop k) := Hh (by rw [HQ1.out, hSl]; unfold escB; rw [if_neg hor, if_pos hpr])
    have p1 : (33 : Int) ≤ (l[k]).toNat := by omega
    have p2 : ((l[k]).toNat : Int) ≤ 126 := by omega
    clear HQ1 hSl hor hpr
    go_wp2_with fail
    exact ⟨⟨k + 1, by omega, by congr 1, by rw [HX.out], trivial⟩, by simp [intOf]; omega⟩
   have HX : Hid (P ++ labB (l.take (k + 1)) = Q ++ [92, UInt8.ofNat (48 + (l[k]).toNat / 100), UInt8.ofNat (48 + (l[k]).toNat / 10 % 10), UInt8.ofNat (48 + (l[k]).toNat % 10)]) := Hh (by rw [HQ1.out]; unfold escB; rw [if_neg hor, if_neg hpr])
   have D1 : Hid (∀ W, Calls prog 31 #[.int .i64 (((l[k]).toNat : Int) / 100)] W (Ret (.string (bs [UInt8.ofNat (48 + (l[k]).toNat / 100)])) W)) := Hh (fun W => by have := DG.out ((l[k]).toNat / 100) (by omega) W; rw [rdig10 _ (by omega)] at this; exact this)
   have D2 : Hid (∀ W, Calls prog 31 #[.int .i64 (((l[k]).toNat : Int) / 10 % 10)] W (Ret (.string (bs [UInt8.ofNat (48 + (l[k]).toNat / 10 % 10)])) W)) := Hh (fun W => by have := DG.out ((l[k]).toNat / 10 % 10) (by omega) W; rw [rdig10 _ (by omega)] at this; exact this)
   have D3 : Hid (∀ W, Calls prog 31 #[.int .i64 (((l[k]).toNat : Int) % 10)] W (Ret (.string (bs [UInt8.ofNat (48 + (l[k]).toNat % 10)])) W)) := Hh (fun W => by have := DG.out ((l[k]).toNat % 10) (by omega) W; rw [rdig10 _ (by omega)] at this; exact this)
   generalize UInt8.ofNat (48 + (l[k]).toNat / 100) = x1 at *
   generalize UInt8.ofNat (48 + (l[k]).toNat / 10 % 10) = x2 at *
   generalize UInt8.ofNat (48 + (l[k]).toNat % 10) = x3 at *
   clear HQ1 hSl hor
   by_cases p1 : 33 ≤ (l[k]).toNat
   case pos =>
    have p1' : (33 : Int) ≤ (l[k]).toNat := by omega
    have p2 : ¬ ((l[k]).toNat : Int) ≤ 126 := by omega
    clear hpr p1
    go_wp2_with fail
    refine (D1.out _).mono ?_
    rintro _ _ ⟨rfl, rfl⟩
    go_wp2_with fail
    refine (D2.out _).mono ?_
    rintro _ _ ⟨rfl, rfl⟩
    go_wp2_with fail
    refine (D3.out _).mono ?_
    rintro _ _ ⟨rfl, rfl⟩
    go_wp2_with fail
    exact ⟨⟨k + 1, by omega, by congr 1, by rw [HX.out], trivial⟩, by simp [intOf]; omega⟩
   have p1' : ¬ (33 : Int) ≤ (l[k]).toNat := by omega
   clear hpr p1
   go_wp2_with fail
   refine (D1.out _).mono ?_
   rintro _ _ ⟨rfl, rfl⟩
   go_wp2_with fail
   refine (D2.out _).mono ?_
   rintro _ _ ⟨rfl, rfl⟩
   go_wp2_with fail
   refine (D3.out _).mono ?_
   rintro _ _ ⟨rfl, rfl⟩
   go_wp2_with fail
   exact ⟨⟨k + 1, by omega, by congr 1, by rw [HX.out], trivial⟩, by simp [intOf]; omega⟩
  obtain rfl : k = l.length := by omega
  have hlk' : ¬ (l.length : Int) < l.length := by omega
  have HP : Hid (P ++ labB (l.take l.length) = J1) := Hh (by rw [List.take_of_length_le (Nat.le_refl _)]; exact PN.out)
  rw [HP.out]
  clear HP PN hlk hk hl63
  go_wp2_with fail
  exact ⟨⟨i + 1, by omega, by congr 1, by rw [HJ1.out], trivial⟩, by simp [intOf]; omega⟩
 obtain rfl : i = n.length := by omega
 have hlt' : ¬ (n.length : Int) < n.length := by omega
 have hn0 : ((n.length : Int) == 0) = false := by simp; omega
 rw [List.take_of_length_le (Nat.le_refl n.length)]
 clear JL HL DG hlt hi
 go_wp2_with fail
 go_ret
 exact ⟨rfl, rfl⟩
end Go.Proofs.YtkcbffldncmbcaaGreatDoor
