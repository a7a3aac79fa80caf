/-
  Layer 14 (message): the reader: take, num, check, name.
-/
import Derived.Test.YteimenplbanooaaGreatDoorRAJq
import Derived.Great.BuildSlice
namespace Go.Proofs.YteimenplbanooaaGreatDoor
open _root_.Go.Proofs.Tryz
open Go.RowKit
set_option maxRecDepth 100000
set_option linter.unusedVariables false
set_option linter.unusedSimpArgs false
theorem grown_setRow {a w : World} {g : Nat} (h : a.grownBy w (some g)) (ds : Array Value) : a.grownBy (w.setRow g ds) (some g) :=
 grown_trans h ⟨rfl, rfl, rfl, by simp, fun k hk hne => setRow_other _ _ _ _ (fun e => hne (by rw [e]))⟩ (.inl rfl)
def RV (w : World) (v : Value) (r : RR) : Prop := ∃ cs, v = .agg cs.toArray ∧ RRown w cs r
def qZ : List Value := [.slice none 0 0, .int .i64 0, .int .i64 0]
theorem fold_set (place : Nat) : ∀ (cs : List Value) (k : Nat) (base : List Value), k + cs.length ≤ base.length →
  (cs.zipIdx k).foldl (fun (b : List Value) x => b.set (0 + x.2) x.1) base = base.take k ++ cs ++ base.drop (k + cs.length)
 | [], k, base, h => by simp
 | c :: cs, k, base, h => by
  have hk : k < base.length := by simp at h; omega
  rw [List.zipIdx_cons, List.foldl_cons, Nat.zero_add, fold_set place cs (k + 1) (base.set k c) (by simp at h ⊢; omega)]
  have e1 : (base.set k c).take (k + 1) = base.take k ++ [c] := by
   rw [List.take_succ_eq_append_getElem (by simpa using hk)]
   simp [List.take_set]
   exact List.set_eq_of_length_le (by simp; omega)
  have e2 : (base.set k c).drop (k + 1 + cs.length) = base.drop (k + 1 + cs.length) := List.drop_set_of_lt (by omega)
  rw [e1, e2]
  simp [Nat.add_assoc, Nat.add_comm 1]
theorem fold_arr (cs : List (Value × Nat)) : ∀ (base : List Value), (cs.foldl (fun (b : Array Value) x => b.setIfInBounds (0 + x.2) x.1) base.toArray) = (cs.foldl (fun (b : List Value) x => b.set (0 + x.2) x.1) base).toArray := by
 induction cs with
 | nil => intro base; rfl
 | cons c cs ih => intro base; rw [List.foldl_cons, List.foldl_cons, List.setIfInBounds_toArray, ih]
theorem fill_one (n : Nat) (base : List Value) (cs : List Value) (h1 : cs.length = n) (h2 : base.length = n) : Instr.fill (fun i => some (i * n, n)) base.toArray [(0, .agg cs.toArray)] = some cs.toArray := by
 have hc : (Value.agg cs.toArray).cells = cs.toArray := rfl
 unfold Instr.fill
 simp only [Nat.zero_mul, hc, List.size_toArray, h1, h2]
 rw [if_neg (by simp)]
 unfold Instr.fill
 have e : (cs.toArray.zipIdx.foldl (fun (b : Array Value) x => b.setIfInBounds (0 + x.2) x.1) base.toArray) = cs.toArray := by
  rw [← Array.foldl_toList, Array.toList_zipIdx, List.toList_toArray, fold_arr, fold_set 0 cs 0 base (by omega)]
  rw [List.take_zero, List.nil_append, List.drop_of_length_le (by omega), List.append_nil]
 exact congrArg some e
theorem qInfo3 : (prog.info? 218).map (fun i => (i.zero, i.size, i.bytes)) = some (some (.agg qZ.toArray), 3, 40) := by kernel_rfl
theorem msgZ_len : msgZ.length = 14 := rfl
theorem MsgOwn.len {w : World} {cs : List Value} {m : Msg} (h : MsgOwn w cs m) : cs.length = 14 := by obtain ⟨vq, va, vu, ve, rfl, _⟩ := h; rfl
theorem MsgOwn.one {w : World} {cs : List Value} {m : Msg} (h : MsgOwn w cs m) : ∀ v ∈ cs, v.oneCell' = true := by
 obtain ⟨vq, va, vu, ve, rfl, h1, h2, h3, h4, _⟩ := h
 obtain ⟨_, _, rfl⟩ := h1.form
 obtain ⟨_, _, rfl⟩ := h2.form
 obtain ⟨_, _, rfl⟩ := h3.form
 obtain ⟨_, _, rfl⟩ := h4.form
 exact msgC_one _ rfl rfl rfl rfl
theorem put_rd (x : List UInt8) (T : List (List (List UInt8) × Nat)) (hT : TabOk x T) (n : List (List UInt8)) (hc : checkN n = 0) :
  (∃ a, putS T x.length n = a ∧ a.length ≤ lsum n + 1 ∧ Rd (x ++ a) x.length x.length n (x.length + a.length)) ∧ TabOk (x ++ putS T x.length n) (putT T x.length n) := by
 obtain ⟨hg, hs⟩ := checkN_ok hc
 obtain ⟨⟨a, h1, h2, h3, h4⟩, h5⟩ := pgo_rd T x hT n [] hg
 unfold putS putT
 rw [if_pos hc, if_pos hc]
 refine ⟨⟨_, rfl, ?_, ?_⟩, ?_⟩
 ·
  rw [h1]; simpa using h2
 ·
  have := h4 x.length (Nat.le_refl _)
  rw [h1]; simpa using this
 ·
  intro r hr
  rcases List.mem_append.1 hr with h | h
  ·
   exact hT.app _ r h
  ·
   exact h5 r h
theorem tabOk_nil (x : List UInt8) : TabOk x [] := by intro r hr; cases hr
theorem putZ_rd (x : List UInt8) (n : List (List UInt8)) (hc : checkN n = 0) : (putZ n).length = lsum n + 1 ∧ Rd (x ++ putZ n) x.length x.length n (x.length + (putZ n).length) := by
 have e : putS [] x.length n = putZ n := by
  unfold putS putZ encZ
  rw [if_pos hc, if_pos hc, pgo_none]; simp
 obtain ⟨⟨a, h1, h2, h3⟩, _⟩ := put_rd x [] (tabOk_nil x) n hc
 rw [e] at h1
 subst h1
 refine ⟨?_, h3⟩
 unfold putZ encZ
 rw [if_pos hc, List.length_append, encN_length]; rfl
set_option maxRecDepth 10000
def TabOkO (m : List UInt8) (T : Option Tab) : Prop := ∀ T', T = some T' → TabOk m T'
theorem TabOkO.app {m : List UInt8} {T : Option Tab} (h : TabOkO m T) (y : List UInt8) : TabOkO (m ++ y) T := fun T' e => (h T' e).app y
theorem putSO_rd (x : List UInt8) (T : Option Tab) (n : List (List UInt8)) (hT : TabOkO x T) (hc : checkN n = 0) :
  Rd (x ++ putSO T x.length n) x.length x.length n (x.length + (putSO T x.length n).length) ∧ TabOkO (x ++ putSO T x.length n) (putTO T x.length n) ∧ (putSO T x.length n).length ≤ lsum n + 1 := by
 cases T with
 | none =>
  obtain ⟨h1, h2⟩ := putZ_rd x n hc
  exact ⟨h2, fun T' e => (by cases e), (by show (putZ n).length ≤ _; omega)⟩
 | some T =>
  obtain ⟨⟨a, h1, h2, h3⟩, h4⟩ := put_rd x T (hT T rfl) n hc
  subst h1
  exact ⟨h3, fun T' e => (by cases e; exact h4), h2⟩
theorem nameAt_rd {m : List UInt8} {p : Nat} {n : List (List UInt8)} {e : Nat} (h : Rd m p p n e) (hp : p ≤ m.length) (hc : checkN n = 0) : nameAt m p = .ok (n, e) := by
 unfold nameAt
 rw [rd_pget h hp (checkN_ok hc).2]
theorem nameE_rd {m : List UInt8} {p : Nat} {n : List (List UInt8)} {e : Nat} (h : Rd m p p n e) (hp : p ≤ m.length) (hc : checkN n = 0) : nameE m p = .ok (n, e) := by
 unfold nameE
 rw [nameAt_rd h hp hc]
theorem numB_put2 (n : Int) (h : inB 65535 n = true) : ((numB (putB 2 n) : Nat) : Int) = n := by
 have h2 := numB_putB 2 n
 simp only [inB, Bool.and_eq_true, decide_eq_true_eq] at h
 rw [h2]
 exact Int.emod_eq_of_lt h.1 (by have := h.2; omega)
theorem numB_put4 (n : Int) (h : inB 4294967295 n = true) : ((numB (putB 4 n) : Nat) : Int) = n := by
 have h2 := numB_putB 4 n
 simp only [inB, Bool.and_eq_true, decide_eq_true_eq] at h
 rw [h2]
 exact Int.emod_eq_of_lt h.1 (by have := h.2; omega)
def onlyD (r : RR) : RR := { r with name := [], ty := 0, cl := 0, ttl := 0 }
structure ROk (r : RR) : Prop where
 nm : checkN r.name = 0
 ty : inB 65535 r.ty = true
 cl : inB 65535 r.cl = true
 ttl : inB 4294967295 r.ttl = true
 has : hasE r = 0
 bare : bareB (clearR r) = true
theorem rOk_of {r : RR} (h : checkR r = 0) : ROk r := by
 unfold checkR at h
 by_cases h1 : checkN r.name = 0
 ·
  rw [if_neg (by simp [h1])] at h
  by_cases h2 : ¬ ([r.ty, r.cl].all (inB 65535)) = true ∨ ¬ inB 4294967295 r.ttl = true
  ·
   rw [if_pos h2] at h; cases h
  ·
   rw [if_neg h2] at h
   by_cases h3 : hasE r = 0
   ·
    rw [if_neg (by simp [h3])] at h
    by_cases h4 : bareB (clearR r) = true
    ·
     simp only [not_or, Classical.not_not, List.all_cons, List.all_nil, Bool.and_true, Bool.and_eq_true] at h2
     exact ⟨h1, h2.1.1, h2.1.2, h2.2, h3, h4⟩
    ·
     rw [if_neg h4] at h; cases h
   ·
    rw [if_pos h3] at h; exact absurd h h3
 ·
  rw [if_pos h1] at h; exact absurd h h1
theorem bare_iff {r : RR} : bareB r = true ↔ r.ad = Adr.zero ∧ r.tg = [] ∧ r.ml = [] ∧ r.pri = 0 ∧ r.we = 0 ∧ r.po = 0 ∧ r.nums = [0, 0, 0, 0, 0] ∧ r.raw = [] := by
 simp [bareB, and_assoc]
theorem take_app_len (s d : List UInt8) : (s ++ d).take (s.length + d.length) = s ++ d := List.take_of_length_le (by simp)
theorem getR_back (s : List UInt8) (T : Option Tab) (r : RR) (hw : r.wf) (hc : checkR r = 0) (hT : TabOkO s T) :
  getR (s ++ dataR T s.length r) s.length (dataR T s.length r).length r.ty r.cl = .ok (onlyD r) ∧ TabOkO (s ++ dataR T s.length r) (tabR T s.length r) := by
 have ok := rOk_of hc
 have hE := ok.has
 have hB := ok.bare
 obtain ⟨name, ty, cl, ttl, ad, tg, ml, pri, we, po, nums, raw⟩ := r
 have hw1 : ad.ip.length = 16 := hw.1
 have hw2 : nums.length = 5 := hw.2
 unfold getR dataR tabR
 unfold hasE at hE
 unfold clearR at hB
 simp only at hE hB ⊢
 rcases kindR_cases ty cl with h | h | h | h | h | h
 ·
  -- A
  simp only [h] at hE hB ⊢
  simp only [if_true, true_or, show ¬ ((1 : Int) = 28) by decide, show ¬ ((1 : Int) = 5) by decide, show ¬ ((1 : Int) = 12) by decide, show ¬ ((1 : Int) = 6) by decide, or_self, if_false] at hE hB ⊢
  obtain ⟨b1, b2, b3, b4, b5, b6, b7, b8⟩ := bare_iff.1 hB
  simp only at b1 b2 b3 b4 b5 b6 b7 b8
  have hd : (ad.ip.take 4).length = 4 := by simp [hw1]
  refine ⟨?_, hT.app _⟩
  rw [if_pos hd, take_app_len, List.drop_left]
  split at hE
  ·
   cases hE
  ·
   rename_i hn
   simp only [not_or, Classical.not_not] at hn
   obtain ⟨n1, n2, n3⟩ := hn
   have n4 : ad.ip.drop 4 = List.replicate 12 0 := by
    unfold Adr.check at n1
    rw [if_pos n2] at n1
    split at n1
    ·
     rename_i hh; exact hh.1
    ·
     cases n1
   have e : ad = ⟨4, ad.ip.take 4 ++ List.replicate 12 0, 0⟩ := by
    rw [← n4, List.take_append_drop, ← n2, ← n3]
   subst b2 b3 b4 b5 b6 b7 b8
   unfold onlyD
   simp only [RR.zero]
   rw [← e]
 ·
  -- AAAA
  simp only [h] at hE hB ⊢
  simp only [if_true, or_true, show ¬ ((28 : Int) = 1) by decide, show ¬ ((28 : Int) = 5) by decide, show ¬ ((28 : Int) = 12) by decide, show ¬ ((28 : Int) = 6) by decide, or_self, if_false] at hE hB ⊢
  obtain ⟨b1, b2, b3, b4, b5, b6, b7, b8⟩ := bare_iff.1 hB
  simp only at b1 b2 b3 b4 b5 b6 b7 b8
  refine ⟨?_, hT.app _⟩
  rw [if_pos hw1, take_app_len, List.drop_left]
  split at hE
  ·
   cases hE
  ·
   rename_i hn
   simp only [not_or, Classical.not_not] at hn
   obtain ⟨n1, n2, n3⟩ := hn
   have e : ad = ⟨6, ad.ip, 0⟩ := by rw [← n2, ← n3]
   subst b2 b3 b4 b5 b6 b7 b8
   unfold onlyD
   simp only [RR.zero]
   rw [← e]
 ·
  -- names
  have h1 : ¬ kindR ty cl = 1 := by rcases h with h | h <;> omega
  have h2 : ¬ kindR ty cl = 28 := by rcases h with h | h <;> omega
  have h12 : ¬ (kindR ty cl = 1 ∨ kindR ty cl = 28) := by omega
  rw [if_neg h1, if_neg h2, if_pos h] at hE
  rw [if_neg h12, if_pos h] at hB
  rw [if_neg h1, if_neg h2, if_pos h, if_neg h1, if_neg h2, if_pos h, if_pos h]
  obtain ⟨b1, b2, b3, b4, b5, b6, b7, b8⟩ := bare_iff.1 hB
  simp only at b1 b2 b3 b4 b5 b6 b7 b8
  obtain ⟨p1, p2, p3⟩ := putSO_rd s T tg hT hE
  refine ⟨?_, p2⟩
  rw [take_app_len]
  unfold targAt
  rw [nameE_rd p1 (by simp) hE]
  simp only
  rw [if_pos (by simp)]
  subst b1 b3 b4 b5 b6 b7 b8
  rfl
 ·
  -- SRV
  simp only [h] at hE hB ⊢
  simp only [if_true, show ¬ ((33 : Int) = 1) by decide, show ¬ ((33 : Int) = 28) by decide, show ¬ ((33 : Int) = 5) by decide, show ¬ ((33 : Int) = 12) by decide, show ¬ ((33 : Int) = 6) by decide, or_self, if_false] at hE hB ⊢
  obtain ⟨b1, b2, b3, b4, b5, b6, b7, b8⟩ := bare_iff.1 hB
  simp only at b1 b2 b3 b4 b5 b6 b7 b8
  split at hE
  ·
   rename_i hn
   simp only [List.all_cons, List.all_nil, Bool.and_true, Bool.and_eq_true] at hn
   obtain ⟨n1, n2, n3⟩ := hn
   refine ⟨?_, hT.app _⟩
   obtain ⟨z1, z2⟩ := putZ_rd (s ++ (putB 2 pri ++ putB 2 we ++ putB 2 po)) tg hE
   have hl6 : (putB 2 pri ++ putB 2 we ++ putB 2 po).length = 6 := by simp [putB_length]
   have hl : (s ++ (putB 2 pri ++ putB 2 we ++ putB 2 po)).length = s.length + 6 := by rw [List.length_append, hl6]
   rw [if_neg (by simp only [List.length_append, putB_length]; omega), take_app_len]
   rw [hl, List.append_assoc] at z2
   unfold targAt
   rw [nameE_rd z2 (by simp only [List.length_append, putB_length]; omega) hE]
   simp only
   rw [if_pos (by simp only [List.length_append, putB_length]; omega), List.drop_left]
   have t1 : (putB 2 pri ++ putB 2 we ++ putB 2 po ++ putZ tg).take 2 = putB 2 pri := by
    rw [List.append_assoc, List.append_assoc]; exact List.take_left' (putB_length 2 _)
   have d2 : (putB 2 pri ++ putB 2 we ++ putB 2 po ++ putZ tg).drop 2 = putB 2 we ++ (putB 2 po ++ putZ tg) := by
    rw [List.append_assoc, List.append_assoc]; exact List.drop_left' (putB_length 2 _)
   have d4 : (putB 2 pri ++ putB 2 we ++ putB 2 po ++ putZ tg).drop 4 = putB 2 po ++ putZ tg := by
    rw [show (4 : Nat) = 2 + 2 from rfl, ← List.drop_drop, d2]; exact List.drop_left' (putB_length 2 _)
   rw [t1, d2, d4, List.take_left' (putB_length 2 _), List.take_left' (putB_length 2 _), numB_put2 _ n1, numB_put2 _ n2, numB_put2 _ n3]
   subst b1 b3 b7 b8
   rfl
  ·
   cases hE
 ·
  -- SOA
  simp only [h] at hE hB ⊢
  simp only [if_true, show ¬ ((6 : Int) = 1) by decide, show ¬ ((6 : Int) = 28) by decide, show ¬ ((6 : Int) = 5) by decide, show ¬ ((6 : Int) = 12) by decide, show ¬ ((6 : Int) = 33) by decide, or_self, if_false] at hE hB ⊢
  obtain ⟨b1, b2, b3, b4, b5, b6, b7, b8⟩ := bare_iff.1 hB
  simp only at b1 b2 b3 b4 b5 b6 b7 b8
  by_cases e1 : checkN tg = 0
  ·
   rw [if_neg (by simp [e1])] at hE
   by_cases e2 : checkN ml = 0
   ·
    rw [if_neg (by simp [e2])] at hE
    split at hE
    ·
     rename_i hn
     obtain ⟨p1, p2, p3⟩ := putSO_rd s T tg hT e1
     obtain ⟨A, hA⟩ : ∃ A, A = putSO T s.length tg := ⟨_, rfl⟩
     rw [← hA] at p1 p2 p3 ⊢
     have hat : ((s.length : Int) + (A.length : Int)) = (((s ++ A).length : Nat) : Int) := by simp
     rw [hat]
     obtain ⟨q1, q2, q3⟩ := putSO_rd (s ++ A) (putTO T s.length tg) ml p2 e2
     obtain ⟨B, hB'⟩ : ∃ B, B = putSO (putTO T s.length tg) ((s ++ A).length : Nat) ml := ⟨_, rfl⟩
     rw [← hB'] at q1 q2 q3 ⊢
     obtain ⟨N, hN⟩ : ∃ N, N = nums.flatMap (putB 4) := ⟨_, rfl⟩
     rw [← hN]
     have hNl : N.length = 20 := by
      rw [hN]
      match nums, hw2 with
      | [x0, x1, x2, x3, x4], _ => simp [putB_length]
     have hm : s ++ (A ++ B ++ N) = s ++ A ++ B ++ N := by simp
     refine ⟨?_, by rw [hm]; exact q2.app _⟩
     rw [take_app_len, hm]
     have p1' : Rd (s ++ A ++ B ++ N) s.length s.length tg (s.length + A.length) := (p1.app B).app N
     have q1' : Rd (s ++ A ++ B ++ N) (s ++ A).length (s ++ A).length ml ((s ++ A).length + B.length) := q1.app N
     rw [nameE_rd p1' (by simp only [List.length_append]; omega) e1]
     simp only
     rw [show s.length + A.length = (s ++ A).length by simp, nameE_rd q1' (by simp only [List.length_append]; omega) e2]
     simp only
     rw [if_pos (by simp only [List.length_append, hNl])]
     have hnum : numsAt (s ++ A ++ B ++ N) ((s ++ A).length + B.length) = nums := by
      have hd : (s ++ A ++ B ++ N).drop ((s ++ A).length + B.length) = N := by rw [← List.length_append, List.drop_left]
      unfold numsAt
      simp only [← List.drop_drop, hd]
      match nums, hw2, hN, hn with
      | [x0, x1, x2, x3, x4], _, hN, hn =>
       simp only [List.all_cons, List.all_nil, Bool.and_true, Bool.and_eq_true] at hn
       obtain ⟨n0, n1, n2, n3, n4⟩ := hn
       have hN' : N = putB 4 x0 ++ (putB 4 x1 ++ (putB 4 x2 ++ (putB 4 x3 ++ (putB 4 x4)))) := by rw [hN]; simp
       have f1 : N.drop 4 = putB 4 x1 ++ (putB 4 x2 ++ (putB 4 x3 ++ (putB 4 x4))) := by rw [hN']; exact List.drop_left' (putB_length 4 _)
       have f2 : N.drop 8 = putB 4 x2 ++ (putB 4 x3 ++ (putB 4 x4)) := by rw [show (8 : Nat) = 4 + 4 from rfl, ← List.drop_drop, f1]; exact List.drop_left' (putB_length 4 _)
       have f3 : N.drop 12 = putB 4 x3 ++ (putB 4 x4) := by rw [show (12 : Nat) = 8 + 4 from rfl, ← List.drop_drop, f2]; exact List.drop_left' (putB_length 4 _)
       have f4 : N.drop 16 = putB 4 x4 := by rw [show (16 : Nat) = 12 + 4 from rfl, ← List.drop_drop, f3]; exact List.drop_left' (putB_length 4 _)
       have g0 : N.take 4 = putB 4 x0 := by rw [hN']; exact List.take_left' (putB_length 4 _)
       rw [f1, f2, f3, f4, g0, List.take_left' (putB_length 4 _), List.take_left' (putB_length 4 _), List.take_left' (putB_length 4 _), List.take_of_length_le (by rw [putB_length]; omega), numB_put4 _ n0, numB_put4 _ n1, numB_put4 _ n2, numB_put4 _ n3, numB_put4 _ n4]
     rw [hnum]
     subst b1 b4 b5 b6 b8
     rfl
    ·
     cases hE
   ·
    rw [if_pos e2] at hE; exact absurd hE e2
  ·
   rw [if_pos e1] at hE; exact absurd hE e1
 ·
  -- others
  simp only [h] at hE hB ⊢
  simp only [if_true, show ¬ ((0 : Int) = 1) by decide, show ¬ ((0 : Int) = 28) by decide, show ¬ ((0 : Int) = 5) by decide, show ¬ ((0 : Int) = 12) by decide, show ¬ ((0 : Int) = 33) by decide, show ¬ ((0 : Int) = 6) by decide, or_self, if_false] at hE hB ⊢
  obtain ⟨b1, b2, b3, b4, b5, b6, b7, b8⟩ := bare_iff.1 hB
  simp only at b1 b2 b3 b4 b5 b6 b7 b8
  refine ⟨?_, hT.app _⟩
  rw [take_app_len, List.drop_left]
  subst b1 b2 b3 b4 b5 b6 b7
  rfl
theorem bitw01 (b : Bool) (n : Int) : ∃ x : Int, bitw b n = n * x ∧ 0 ≤ x ∧ x ≤ 1 ∧ (x == 1) = b := by
 cases b
 ·
  exact ⟨0, by simp [bitw], by omega, by omega, rfl⟩
 ·
  exact ⟨1, by simp [bitw], by omega, by omega, rfl⟩
theorem hd_ok_iff (h : Hd) : h.ok = true ↔ (0 ≤ h.id ∧ h.id ≤ 65535) ∧ (0 ≤ h.op ∧ h.op ≤ 15) ∧ (0 ≤ h.rc ∧ h.rc ≤ 15) := by simp [Hd.ok, and_assoc]
theorem hd_num_lt (h : Hd) (hk : h.ok = true) : 0 ≤ h.num ∧ h.num ≤ 65535 := by
 obtain ⟨_, ⟨o0, o1⟩, ⟨r0, r1⟩⟩ := (hd_ok_iff h).1 hk
 have a := bitw_le h.qr 32768 (by decide)
 have b := bitw_le h.aa 1024 (by decide)
 have c := bitw_le h.tc 512 (by decide)
 have d := bitw_le h.rd 256 (by decide)
 have e := bitw_le h.ra 128 (by decide)
 have f := bitw_le h.ad 32 (by decide)
 have g := bitw_le h.cd 16 (by decide)
 unfold Hd.num
 omega
theorem numB2 (n : Int) (h : 0 ≤ n ∧ n ≤ 65535) : (numB (putB 2 n) : Int) = n := by
 rw [numB_putB]
 have : ((256 ^ 2 : Nat) : Int) = 65536 := rfl
 rw [this]; omega
theorem num_bits (h : Hd) (hk : h.ok = true) : hdOf (numB (putB 2 h.id)) (numB (putB 2 h.num)) = h := by
 have hn := numB2 h.num (hd_num_lt h hk)
 obtain ⟨hi, ⟨o0, o1⟩, ⟨r0, r1⟩⟩ := (hd_ok_iff h).1 hk
 have hid := numB2 h.id hi
 generalize numB (putB 2 h.num) = N at *
 generalize numB (putB 2 h.id) = I at *
 obtain ⟨id, qr, op, aa, tc, rd, ra, ad, cd, rc⟩ := h
 simp only [Hd.num] at *
 obtain ⟨x1, e1, p1, q1, rfl⟩ := bitw01 qr 32768
 obtain ⟨x2, e2, p2, q2, rfl⟩ := bitw01 aa 1024
 obtain ⟨x3, e3, p3, q3, rfl⟩ := bitw01 tc 512
 obtain ⟨x4, e4, p4, q4, rfl⟩ := bitw01 rd 256
 obtain ⟨x5, e5, p5, q5, rfl⟩ := bitw01 ra 128
 obtain ⟨x6, e6, p6, q6, rfl⟩ := bitw01 ad 32
 obtain ⟨x7, e7, p7, q7, rfl⟩ := bitw01 cd 16
 rw [e1, e2, e3, e4, e5, e6, e7] at hn
 have key : ∀ (k : Nat) (x : Int), (0 ≤ x ∧ x ≤ 1) → (N : Int) / (k : Int) % 2 = x → bitv N k = (x == 1) := by
  intro k x hx he
  rw [← bitvI, he]
 simp only [hdOf, Hd.mk.injEq]
 refine ⟨hid, key 32768 x1 ⟨p1, q1⟩ ?_, ?_, key 1024 x2 ⟨p2, q2⟩ ?_, key 512 x3 ⟨p3, q3⟩ ?_, key 256 x4 ⟨p4, q4⟩ ?_, key 128 x5 ⟨p5, q5⟩ ?_, key 32 x6 ⟨p6, q6⟩ ?_, key 16 x7 ⟨p7, q7⟩ ?_, ?_⟩
 all_goals omega
theorem at2_cut (a b c : List UInt8) (k : Nat) (ha : a.length = k) (hb : b.length = 2) : at2 (a ++ (b ++ c)) k = numB b := by
 subst ha
 unfold at2
 rw [List.drop_left, ← hb, List.take_left]
theorem at2_put (h : Hd) (c0 c1 c2 c3 : Int) (more : List UInt8) : at2 (putHead h c0 c1 c2 c3 ++ more) 0 = numB (putB 2 h.id) ∧ at2 (putHead h c0 c1 c2 c3 ++ more) 2 = numB (putB 2 h.num) ∧ at2 (putHead h c0 c1 c2 c3 ++ more) 4 = numB (putB 2 c0) ∧
  at2 (putHead h c0 c1 c2 c3 ++ more) 6 = numB (putB 2 c1) ∧ at2 (putHead h c0 c1 c2 c3 ++ more) 8 = numB (putB 2 c2) ∧ at2 (putHead h c0 c1 c2 c3 ++ more) 10 = numB (putB 2 c3) := by
 have l := putB_length 2
 unfold putHead
 refine ⟨?_, ?_, ?_, ?_, ?_, ?_⟩
 ·
  have := at2_cut [] (putB 2 h.id) (putB 2 h.num ++ putB 2 c0 ++ putB 2 c1 ++ putB 2 c2 ++ putB 2 c3 ++ more) 0 rfl (l _)
  simpa [List.append_assoc] using this
 ·
  have := at2_cut (putB 2 h.id) (putB 2 h.num) (putB 2 c0 ++ putB 2 c1 ++ putB 2 c2 ++ putB 2 c3 ++ more) 2 (l _) (l _)
  simpa [List.append_assoc] using this
 ·
  have := at2_cut (putB 2 h.id ++ putB 2 h.num) (putB 2 c0) (putB 2 c1 ++ putB 2 c2 ++ putB 2 c3 ++ more) 4 (by simp [l]) (l _)
  simpa [List.append_assoc] using this
 ·
  have := at2_cut (putB 2 h.id ++ putB 2 h.num ++ putB 2 c0) (putB 2 c1) (putB 2 c2 ++ putB 2 c3 ++ more) 6 (by simp [l]) (l _)
  simpa [List.append_assoc] using this
 ·
  have := at2_cut (putB 2 h.id ++ putB 2 h.num ++ putB 2 c0 ++ putB 2 c1) (putB 2 c2) (putB 2 c3 ++ more) 8 (by simp [l]) (l _)
  simpa [List.append_assoc] using this
 ·
  have := at2_cut (putB 2 h.id ++ putB 2 h.num ++ putB 2 c0 ++ putB 2 c1 ++ putB 2 c2) (putB 2 c3) more 10 (by simp [l]) (l _)
  simpa [List.append_assoc] using this
theorem numAt_put (s y : List UInt8) (k : Nat) (n : Int) : numAt (s ++ (putB k n ++ y)) k s.length = .ok (numB (putB k n), s.length + k) := by
 unfold numAt
 have hl := putB_length k n
 rw [if_neg (by simp only [List.length_append, hl]; omega)]
 have e : ((s ++ (putB k n ++ y)).take (s.length + k)).drop s.length = putB k n := by
  rw [← List.append_assoc]
  have h1 : (s ++ putB k n).length = s.length + k := by simp [hl]
  rw [← h1, List.take_left, List.drop_left]
 rw [e]
theorem qE_ok {q : Qn} (h : qE q = 0) : checkN q.name = 0 ∧ inB 65535 q.ty = true ∧ inB 65535 q.cl = true := by
 unfold qE at h
 by_cases h1 : checkN q.name = 0
 ·
  rw [if_neg (by simp [h1])] at h
  by_cases h2 : (inB 65535 q.ty && inB 65535 q.cl) = true
  ·
   rw [Bool.and_eq_true] at h2; exact ⟨h1, h2⟩
  ·
   rw [if_neg h2] at h; cases h
 ·
  rw [if_pos h1] at h; exact absurd h h1
theorem questAt_put (st : WS) (q : Qn) (y : List UInt8) (hT : TabOkO st.1 st.2) (hq : qE q = 0) :
  questAt ((putQ st q).1 ++ y) st.1.length = .ok (q, (putQ st q).1.length) ∧ TabOkO (putQ st q).1 (putQ st q).2 := by
 obtain ⟨hc, h1, h2⟩ := qE_ok hq
 obtain ⟨s, T⟩ := st
 obtain ⟨n, ty, cl⟩ := q
 simp only at hT hc h1 h2 ⊢
 obtain ⟨p1, p2, p3⟩ := putSO_rd s T n hT hc
 unfold putQ
 simp only
 generalize putSO T s.length n = A at *
 have hA : (s ++ A).length = s.length + A.length := by simp
 have m0 : s ++ A ++ putB 2 ty ++ putB 2 cl ++ y = s ++ A ++ (putB 2 ty ++ (putB 2 cl ++ y)) := by simp
 have m1 : s ++ A ++ putB 2 ty ++ putB 2 cl ++ y = s ++ A ++ putB 2 ty ++ (putB 2 cl ++ y) := by simp
 have e0 : nameAt (s ++ A ++ putB 2 ty ++ putB 2 cl ++ y) s.length = .ok (n, s.length + A.length) := by
  rw [m0]; exact nameAt_rd (p1.app _) (by simp) hc
 have e1 : numAt (s ++ A ++ putB 2 ty ++ putB 2 cl ++ y) 2 (s.length + A.length) = .ok (numB (putB 2 ty), s.length + A.length + 2) := by
  rw [m0, ← hA]; exact numAt_put _ _ 2 ty
 have hB : (s ++ A ++ putB 2 ty).length = s.length + A.length + 2 := by rw [List.length_append, putB_length, hA]
 have e2 : numAt (s ++ A ++ putB 2 ty ++ putB 2 cl ++ y) 2 (s.length + A.length + 2) = .ok (numB (putB 2 cl), s.length + A.length + 2 + 2) := by
  rw [m1, ← hB]; exact numAt_put _ _ 2 cl
 have hC : (s ++ A ++ putB 2 ty ++ putB 2 cl).length = s.length + A.length + 2 + 2 := by rw [List.length_append, putB_length, hB]
 refine ⟨?_, (p2.app _).app _⟩
 unfold questAt
 rw [e0]
 simp only
 rw [e1]
 simp only
 rw [e2]
 simp only
 rw [numB_put2 _ h1, numB_put2 _ h2, hC]
theorem getR_app (m y : List UInt8) (a n : Nat) (ty cl : Int) (h : a + n ≤ m.length) : getR (m ++ y) a n ty cl = getR m a n ty cl := by
 unfold getR
 rw [List.take_append_of_le_length h]
theorem recT_ok (st : WS) (r : RR) (hT : TabOkO st.1 st.2) (hc : checkR r = 0) : TabOkO (recS st r) (recT st r) := by
 obtain ⟨p1, p2, p3⟩ := putSO_rd st.1 st.2 r.name hT (rOk_of hc).nm
 exact ((p2.app _).app _).app _
theorem recS2 (st : WS) (r : RR) (x : List UInt8) : ((recS st r ++ putB 2 x.length).length : Int) = ((recS st r).length : Int) + 2 := by
 rw [List.length_append, putB_length]; simp
theorem putRec_tab (st : WS) (r : RR) (hT : TabOkO st.1 st.2) (hw : r.wf) (hc : checkR r = 0) : TabOkO (putRec st r).1 (putRec st r).2 := by
 have h1 := (recT_ok st r hT hc).app (putB 2 (recD st r).length)
 have h2 := (getR_back _ _ r hw hc h1).2
 rw [recS2] at h2
 exact h2
theorem recAt_put (st : WS) (r : RR) (y : List UInt8) (hT : TabOkO st.1 st.2) (hw : r.wf) (hc : checkR r = 0) (hl : (recD st r).length ≤ 65535) :
  recAt ((putRec st r).1 ++ y) st.1.length = .ok (r, (putRec st r).1.length) := by
 have ok := rOk_of hc
 have h1 := (recT_ok st r hT hc).app (putB 2 (recD st r).length)
 have h2 := (getR_back _ _ r hw hc h1).1
 rw [recS2] at h2
 change getR (recS st r ++ putB 2 (recD st r).length ++ recD st r) _ (recD st r).length _ _ = _ at h2
 obtain ⟨p1, p2, p3⟩ := putSO_rd st.1 st.2 r.name hT ok.nm
 unfold putRec
 simp only
 generalize recD st r = D at *
 unfold recS at *
 generalize putSO st.2 st.1.length r.name = A at *
 obtain ⟨s, T⟩ := st
 simp only at hT h1 h2 p1 p2 p3 ⊢
 have hA : (s ++ A).length = s.length + A.length := by simp
 have hB : (s ++ A ++ putB 2 r.ty).length = s.length + A.length + 2 := by rw [List.length_append, putB_length, hA]
 have hC : (s ++ A ++ putB 2 r.ty ++ putB 2 r.cl).length = s.length + A.length + 2 + 2 := by rw [List.length_append, putB_length, hB]
 have hD : (s ++ A ++ putB 2 r.ty ++ putB 2 r.cl ++ putB 4 r.ttl).length = s.length + A.length + 2 + 2 + 4 := by rw [List.length_append, putB_length, hC]
 have hE : (s ++ A ++ putB 2 r.ty ++ putB 2 r.cl ++ putB 4 r.ttl ++ putB 2 D.length).length = s.length + A.length + 2 + 2 + 4 + 2 := by rw [List.length_append, putB_length, hD]
 obtain ⟨M, hM⟩ : ∃ M, s ++ A ++ putB 2 r.ty ++ putB 2 r.cl ++ putB 4 r.ttl ++ putB 2 D.length ++ D ++ y = M := ⟨_, rfl⟩
 have m0 : M = s ++ A ++ (putB 2 r.ty ++ (putB 2 r.cl ++ putB 4 r.ttl ++ putB 2 D.length ++ D ++ y)) := by rw [← hM]; simp
 have m1 : M = s ++ A ++ putB 2 r.ty ++ (putB 2 r.cl ++ (putB 4 r.ttl ++ putB 2 D.length ++ D ++ y)) := by rw [← hM]; simp
 have m2 : M = s ++ A ++ putB 2 r.ty ++ putB 2 r.cl ++ (putB 4 r.ttl ++ (putB 2 D.length ++ D ++ y)) := by rw [← hM]; simp
 have m3 : M = s ++ A ++ putB 2 r.ty ++ putB 2 r.cl ++ putB 4 r.ttl ++ (putB 2 D.length ++ (D ++ y)) := by rw [← hM]; simp
 have hMl : M.length = s.length + A.length + 2 + 2 + 4 + 2 + D.length + y.length := by rw [← hM, List.length_append, List.length_append, hE]
 have e0 : nameAt M s.length = .ok (r.name, s.length + A.length) := by rw [m0]; exact nameAt_rd (p1.app _) (by simp) ok.nm
 have e1 : numAt M 2 (s.length + A.length) = .ok (numB (putB 2 r.ty), s.length + A.length + 2) := by rw [m0, ← hA]; exact numAt_put _ _ 2 _
 have e2 : numAt M 2 (s.length + A.length + 2) = .ok (numB (putB 2 r.cl), s.length + A.length + 2 + 2) := by rw [m1, ← hB]; exact numAt_put _ _ 2 _
 have e3 : numAt M 4 (s.length + A.length + 2 + 2) = .ok (numB (putB 4 r.ttl), s.length + A.length + 2 + 2 + 4) := by rw [m2, ← hC]; exact numAt_put _ _ 4 _
 have e4 : numAt M 2 (s.length + A.length + 2 + 2 + 4) = .ok (numB (putB 2 D.length), s.length + A.length + 2 + 2 + 4 + 2) := by rw [m3, ← hD]; exact numAt_put _ _ 2 _
 have hsz : numB (putB 2 D.length) = D.length := by
  have := numB_put2 (D.length : Int) (by simp [inB]; omega)
  omega
 have e5 : getR M (s.length + A.length + 2 + 2 + 4 + 2) D.length r.ty r.cl = .ok (onlyD r) := by
  rw [← hM, getR_app _ _ _ _ _ _ (by rw [List.length_append, hE]; omega), ← hE]; exact h2
 rw [hM]
 unfold recAt
 rw [e0]
 simp only
 rw [e1]
 simp only
 rw [e2]
 simp only
 rw [e3]
 simp only
 rw [e4, hsz]
 simp only
 rw [if_neg (by omega), numB_put2 _ ok.ty, numB_put2 _ ok.cl, e5]
 simp only
 rw [numB_put4 _ ok.ttl]
 simp only [onlyD]
 rw [List.length_append, hE]
theorem putRec_d (st : WS) (r : RR) : (recD st r).length ≤ (putRec st r).1.length := by simp [putRec]; omega
theorem many_put {α : Type} (f : WS → α → WS) (g : List UInt8 → Nat → Except Int (α × Nat)) (ok : α → Prop) (hpre : ∀ st x, ∃ z, (f st x).1 = st.1 ++ z)
  (hstep : ∀ st x y, TabOkO st.1 st.2 → ok x → (f st x).1.length ≤ 65535 → g ((f st x).1 ++ y) st.1.length = .ok (x, (f st x).1.length) ∧ TabOkO (f st x).1 (f st x).2) :
  ∀ (l : List α) (st : WS) (y : List UInt8), TabOkO st.1 st.2 → (∀ x ∈ l, ok x) → (l.foldl f st).1.length ≤ 65535 →
   (∃ z, (l.foldl f st).1 = st.1 ++ z) ∧ manyAt (g ((l.foldl f st).1 ++ y)) l.length st.1.length = .ok (l, (l.foldl f st).1.length) ∧ TabOkO (l.foldl f st).1 (l.foldl f st).2
 | [], st, y, hT, _, _ => ⟨⟨[], by simp⟩, rfl, hT⟩
 | x :: l, st, y, hT, hok, hl => by
  simp only [List.foldl_cons] at hl ⊢
  obtain ⟨z0, hz0⟩ := hpre st x
  have fpre : ∀ (l : List α) (st : WS), ∃ z, (l.foldl f st).1 = st.1 ++ z := by
   intro l
   induction l with
   | nil => intro st; exact ⟨[], by simp⟩
   | cons a l ih =>
    intro st
    obtain ⟨z1, h1⟩ := ih (f st a)
    obtain ⟨z2, h2⟩ := hpre st a
    exact ⟨z2 ++ z1, by rw [List.foldl_cons, h1, h2, List.append_assoc]⟩
  obtain ⟨z1, hz1⟩ := fpre l (f st x)
  have hl1 : (f st x).1.length ≤ 65535 := by rw [hz1, List.length_append] at hl; omega
  obtain ⟨s1, s2⟩ := hstep st x (z1 ++ y) hT (hok x (List.mem_cons_self ..)) hl1
  obtain ⟨⟨z, i1⟩, i2, i3⟩ := many_put f g ok hpre hstep l (f st x) y s2 (fun a ha => hok a (List.mem_cons_of_mem _ ha)) hl
  refine ⟨⟨z0 ++ z1, by rw [hz1, hz0, List.append_assoc]⟩, ?_, i3⟩
  rw [List.length_cons]
  unfold manyAt
  rw [← List.append_assoc, ← hz1] at s1
  rw [s1]
  simp only
  rw [i2]
theorem putQ_pre (st : WS) (q : Qn) : ∃ z, (putQ st q).1 = st.1 ++ z := ⟨putSO st.2 st.1.length q.name ++ putB 2 q.ty ++ putB 2 q.cl, by simp [putQ]⟩
theorem putRec_pre (st : WS) (r : RR) : ∃ z, (putRec st r).1 = st.1 ++ z := ⟨_, by unfold putRec recS; simp only [List.append_assoc]; rfl⟩
theorem checkM_q {m : Msg} (h : checkM m = 0) : ∀ q ∈ m.qs, qE q = 0 := by
 unfold checkM at h
 cases hk : m.hd.ok with
 | false => rw [if_pos hk] at h; cases h
 | true =>
  rw [if_neg (by simp [hk])] at h
  by_cases h1 : 65535 < m.qs.length ∨ 65535 < m.an.length ∨ 65535 < m.au.length ∨ 65535 < m.ex.length
  ·
   rw [if_pos h1] at h; cases h
  ·
   rw [if_neg h1] at h
   by_cases h2 : fstE (m.qs.map qE) = 0
   ·
    exact fun q hq => fstE_zero h2 _ (List.mem_map_of_mem hq)
   ·
    rw [if_pos h2] at h; exact absurd h h2
theorem start_tab (m : Msg) (pack : Bool) : TabOkO (startM m pack).1 (startM m pack).2 := by
  intro T e
  cases pack with
  | false => cases e
  | true => obtain rfl : [] = T := by simpa [startM] using e
            exact tabOk_nil _
theorem rrs_mem {m : Msg} {r : RR} : r ∈ m.rrs ↔ r ∈ m.an ∨ r ∈ m.au ∨ r ∈ m.ex := by simp [Msg.rrs, or_assoc]
theorem decM_enc (m : Msg) (pack : Bool) (hw : ∀ r ∈ m.rrs, r.wf) (hc : checkM m = 0) (hl : (encS m pack).1.length ≤ 65535) : decM (encS m pack).1 = .ok m := by
 have ok := mOk_of hc
 have okq := checkM_q hc
 rw [encS_eq] at hl ⊢
 have HQ : ∀ st x y, TabOkO st.1 st.2 → qE x = 0 → (putQ st x).1.length ≤ 65535 → questAt ((putQ st x).1 ++ y) st.1.length = .ok (x, (putQ st x).1.length) ∧ TabOkO (putQ st x).1 (putQ st x).2 := fun st x y h1 h2 _ => questAt_put st x y h1 h2
 have HR : ∀ st x y, TabOkO st.1 st.2 → (x.wf ∧ checkR x = 0) → (putRec st x).1.length ≤ 65535 → recAt ((putRec st x).1 ++ y) st.1.length = .ok (x, (putRec st x).1.length) ∧ TabOkO (putRec st x).1 (putRec st x).2 := fun st x y h1 h2 h3 => ⟨recAt_put st x y h1 h2.1 h2.2 (Nat.le_trans (putRec_d st x) h3), putRec_tab st x h1 h2.1 h2.2⟩
 have okR : ∀ l : List RR, (∀ r ∈ l, r ∈ m.rrs) → ∀ r ∈ l, r.wf ∧ checkR r = 0 := fun l h r hr => ⟨hw r (h r hr), ok.r r (h r hr)⟩
 have oka := okR m.an (fun r h => rrs_mem.2 (.inl h))
 have oku := okR m.au (fun r h => rrs_mem.2 (.inr (.inl h)))
 have oke := okR m.ex (fun r h => rrs_mem.2 (.inr (.inr h)))
 have T0 := start_tab m pack
 have L0 := start_len m pack
 have P0 : (startM m pack).1 = putHead m.hd m.qs.length m.an.length m.au.length m.ex.length := rfl
 generalize startM m pack = s0 at *
 obtain ⟨s1, h1⟩ : ∃ s, m.qs.foldl putQ s0 = s := ⟨_, rfl⟩
 rw [h1] at hl ⊢
 obtain ⟨s2, h2⟩ : ∃ s, m.an.foldl putRec s1 = s := ⟨_, rfl⟩
 rw [h2] at hl ⊢
 obtain ⟨s3, h3⟩ : ∃ s, m.au.foldl putRec s2 = s := ⟨_, rfl⟩
 rw [h3] at hl ⊢
 obtain ⟨s4, h4⟩ : ∃ s, m.ex.foldl putRec s3 = s := ⟨_, rfl⟩
 rw [h4] at hl ⊢
 have l4 := foldR_len m.ex s3
 have l3 := foldR_len m.au s2
 have l2 := foldR_len m.an s1
 have l1 := foldQ_len m.qs s0
 rw [h4] at l4
 rw [h3] at l3
 rw [h2] at l2
 rw [h1] at l1
 have A1 := fun y => many_put putQ questAt (fun q => qE q = 0) putQ_pre HQ m.qs s0 y T0 okq (by rw [h1]; omega)
 simp only [h1] at A1
 have A2 := fun y => many_put putRec recAt (fun r => r.wf ∧ checkR r = 0) putRec_pre HR m.an s1 y (A1 []).2.2 oka (by rw [h2]; omega)
 simp only [h2] at A2
 have A3 := fun y => many_put putRec recAt (fun r => r.wf ∧ checkR r = 0) putRec_pre HR m.au s2 y (A2 []).2.2 oku (by rw [h3]; omega)
 simp only [h3] at A3
 have A4 := fun y => many_put putRec recAt (fun r => r.wf ∧ checkR r = 0) putRec_pre HR m.ex s3 y (A3 []).2.2 oke (by rw [h4]; omega)
 simp only [h4] at A4
 obtain ⟨z4, e4⟩ := (A4 []).1
 obtain ⟨z3, e3⟩ := (A3 []).1
 obtain ⟨z2, e2⟩ := (A2 []).1
 obtain ⟨z1, e1⟩ := (A1 []).1
 have B4 := (A4 []).2.1
 rw [List.append_nil] at B4
 have B3 := (A3 z4).2.1
 rw [← e4] at B3
 have B2 := (A2 (z3 ++ z4)).2.1
 rw [← List.append_assoc, ← e3, ← e4] at B2
 have B1 := (A1 (z2 ++ (z3 ++ z4))).2.1
 rw [← List.append_assoc, ← List.append_assoc, ← e2, ← e3, ← e4] at B1
 have M : s4.1 = putHead m.hd m.qs.length m.an.length m.au.length m.ex.length ++ (z1 ++ z2 ++ z3 ++ z4) := by rw [e4, e3, e2, e1, P0]; simp
 obtain ⟨a0, a2, a4, a6, a8, a10⟩ := at2_put m.hd m.qs.length m.an.length m.au.length m.ex.length (z1 ++ z2 ++ z3 ++ z4)
 rw [← M] at a0 a2 a4 a6 a8 a10
 have n2 : ∀ k : Nat, k ≤ 65535 → numB (putB 2 (k : Int)) = k := fun k hk => by have := numB2 (k : Int) ⟨by omega, by omega⟩; omega
 unfold decM
 rw [if_neg (by omega), if_neg (by omega), a0, a2, a4, a6, a8, a10, n2 _ ok.lq, n2 _ ok.la, n2 _ ok.lu, n2 _ ok.le, num_bits _ ok.hd, ← L0, B1]
 simp only
 rw [B2]
 simp only
 rw [B3]
 simp only
 rw [B4]
 simp only
 rw [if_neg (Nat.lt_irrefl _)]
theorem putSO_le (x : List UInt8) (T : Option Tab) (n : List (List UInt8)) (hT : TabOkO x T) (b : Int) (hc : checkN n = 0) : (putSO T x.length n).length ≤ (putSO none b n).length := by
 have h1 := (putSO_rd x T n hT hc).2.2
 have h2 := (putZ_rd x n hc).1
 show _ ≤ (putZ n).length
 omega
theorem dataR_le (s : List UInt8) (T : Option Tab) (r : RR) (hc : checkR r = 0) (hT : TabOkO s T) (b : Int) : (dataR T s.length r).length ≤ (dataR none b r).length := by
 have hE := (rOk_of hc).has
 unfold hasE at hE
 unfold dataR
 split
 ·
  exact Nat.le_refl _
 rename_i k1
 rw [if_neg k1] at hE
 split
 ·
  exact Nat.le_refl _
 rename_i k2
 rw [if_neg k2] at hE
 split
 ·
  rename_i k3
  rw [if_pos k3] at hE
  exact putSO_le s T r.tg hT b hE
 rename_i k3
 rw [if_neg k3] at hE
 split
 ·
  exact Nat.le_refl _
 rename_i k4
 rw [if_neg k4] at hE
 split
 ·
  rename_i k5
  rw [if_pos k5] at hE
  by_cases e1 : checkN r.tg = 0
  ·
   rw [if_neg (by simp [e1])] at hE
   by_cases e2 : checkN r.ml = 0
   ·
    obtain ⟨p1, p2, p3⟩ := putSO_rd s T r.tg hT e1
    have h1 := putSO_le s T r.tg hT b e1
    have hat : ((s.length : Int) + ((putSO T s.length r.tg).length : Int)) = (((s ++ putSO T s.length r.tg).length : Nat) : Int) := by simp
    rw [hat]
    have h2 := putSO_le _ _ r.ml p2 (b + ((putSO none b r.tg).length : Int)) e2
    simp only [List.length_append, putTO, Option.map_none] at h2 ⊢
    omega
   ·
    rw [if_pos e2] at hE; exact absurd hE e2
  ·
   rw [if_pos e1] at hE; exact absurd hE e1
 ·
  exact Nat.le_refl _
theorem foldQ_le : ∀ (l : List Qn) (st st' : WS), (∀ q ∈ l, qE q = 0) → TabOkO st.1 st.2 → st'.2 = none → st.1.length ≤ st'.1.length → TabOkO (l.foldl putQ st).1 (l.foldl putQ st).2 ∧ (l.foldl putQ st').2 = none ∧ (l.foldl putQ st).1.length ≤ (l.foldl putQ st').1.length
 | [], st, st', _, h1, h2, h3 => ⟨h1, h2, h3⟩
 | q :: l, st, st', hq, h1, h2, h3 => by
  rw [List.foldl_cons, List.foldl_cons]
  have q0 := hq q (List.mem_cons_self ..)
  refine foldQ_le l (putQ st q) (putQ st' q) (fun a ha => hq a (List.mem_cons_of_mem _ ha)) (questAt_put st q [] h1 q0).2 (by simp [putQ, h2, putTO]) ?_
  have := putSO_le st.1 st.2 q.name h1 (st'.1.length : Int) (qE_ok q0).1
  unfold putQ
  simp only [List.length_append, putB_length, h2]
  omega
theorem foldR_le : ∀ (l : List RR) (st st' : WS), (∀ r ∈ l, r.wf ∧ checkR r = 0) → TabOkO st.1 st.2 → st'.2 = none → st.1.length ≤ st'.1.length → TabOkO (l.foldl putRec st).1 (l.foldl putRec st).2 ∧ (l.foldl putRec st').2 = none ∧ (l.foldl putRec st).1.length ≤ (l.foldl putRec st').1.length
 | [], st, st', _, h1, h2, h3 => ⟨h1, h2, h3⟩
 | r :: l, st, st', hr, h1, h2, h3 => by
  rw [List.foldl_cons, List.foldl_cons]
  obtain ⟨r0, r1⟩ := hr r (List.mem_cons_self ..)
  have t2 : recT st' r = none := by simp [recT, h2, putTO]
  have tt : ∀ b : Int, tabR none b r = none := fun b => by unfold tabR; split <;> (try split) <;> simp [putTO]
  refine foldR_le l (putRec st r) (putRec st' r) (fun a ha => hr a (List.mem_cons_of_mem _ ha)) (putRec_tab st r h1 r0 r1) (by show tabR (recT st' r) _ r = none; rw [t2]; exact tt _) ?_
  have a1 := putSO_le st.1 st.2 r.name h1 (st'.1.length : Int) (rOk_of r1).nm
  have h4 := (recT_ok st r h1 r1).app (putB 2 (recD st r).length)
  have a2 := dataR_le _ _ r r1 h4 (((recS st' r).length : Int) + 2)
  rw [recS2] at a2
  have a2' : (recD st r).length ≤ (recD st' r).length := by unfold recD; rw [t2]; exact a2
  have a3 : (recS st r).length ≤ (recS st' r).length := by unfold recS; simp only [List.length_append, putB_length, h2]; omega
  unfold putRec
  simp only [List.length_append, putB_length]
  omega
theorem encS_le (m : Msg) (hw : ∀ r ∈ m.rrs, r.wf) (hc : checkM m = 0) : (encS m true).1.length ≤ (encS m false).1.length := by
 have ok := mOk_of hc
 obtain ⟨q1, q2, q3⟩ := foldQ_le m.qs (startM m true) (startM m false) (checkM_q hc) (start_tab m true) rfl (Nat.le_refl _)
 exact (foldR_le m.rrs _ _ (fun r hr => ⟨hw r hr, ok.r r hr⟩) q1 q2 q3).2.2
end Go.Proofs.YteimenplbanooaaGreatDoor
