/-
  Messages, the plain law: what is encoded is decoded; packed it is not longer.
-/
import Derived.Test.YtlmgdogblbigpaaRdBack
import Derived.Test.YtlmgdogblbigpaaGQ
import Derived.Test.YtlmgdogblbigpaaHdPl
namespace Go.Proofs.Ytlmgdogblbigpaa
set_option linter.unusedVariables false
set_option linter.unusedSimpArgs false
set_option maxRecDepth 10000

theorem numAt_put (s y : List UInt8) (k : Nat) (n : Int) : numAt (s ++ (putB k n ++ y)) k s.length = .ok (numB (putB k n), s.length + k) := by
  unfold numAt
  have hl := putB_length k n
  rw [if_neg (by simp only [List.length_append, hl]; omega)]
  have e : ((s ++ (putB k n ++ y)).take (s.length + k)).drop s.length = putB k n := by
    rw [← List.append_assoc]
    have h1 : (s ++ putB k n).length = s.length + k := by simp [hl]
    rw [← h1, List.take_left, List.drop_left]
  rw [e]
/-- What a question that may be has. -/
theorem qE_ok {q : Qn} (h : qE q = 0) : checkN q.name = 0 ∧ inB 65535 q.ty = true ∧ inB 65535 q.cl = true := by
  unfold qE at h
  by_cases h1 : checkN q.name = 0
  · rw [if_neg (by simp [h1])] at h
    by_cases h2 : (inB 65535 q.ty && inB 65535 q.cl) = true
    · rw [Bool.and_eq_true] at h2; exact ⟨h1, h2⟩
    · rw [if_neg h2] at h; cases h
  · rw [if_pos h1] at h; exact absurd h h1
theorem questAt_put (st : WS) (q : Qn) (y : List UInt8) (hT : TabOkO st.1 st.2) (hq : qE q = 0) :
    questAt ((putQ st q).1 ++ y) st.1.length = .ok (q, (putQ st q).1.length) ∧ TabOkO (putQ st q).1 (putQ st q).2 := by
  obtain ⟨hc, h1, h2⟩ := qE_ok hq
  obtain ⟨s, T⟩ := st
  obtain ⟨n, ty, cl⟩ := q
  simp only at hT hc h1 h2 ⊢
  obtain ⟨p1, p2, p3⟩ := putSO_rd s T n hT hc
  unfold putQ
  simp only
  generalize putSO T s.length n = A at *
  have hA : (s ++ A).length = s.length + A.length := by simp
  have m0 : s ++ A ++ putB 2 ty ++ putB 2 cl ++ y = s ++ A ++ (putB 2 ty ++ (putB 2 cl ++ y)) := by simp
  have m1 : s ++ A ++ putB 2 ty ++ putB 2 cl ++ y = s ++ A ++ putB 2 ty ++ (putB 2 cl ++ y) := by simp
  have e0 : nameAt (s ++ A ++ putB 2 ty ++ putB 2 cl ++ y) s.length = .ok (n, s.length + A.length) := by
    rw [m0]; exact nameAt_rd (p1.app _) (by simp) hc
  have e1 : numAt (s ++ A ++ putB 2 ty ++ putB 2 cl ++ y) 2 (s.length + A.length) = .ok (numB (putB 2 ty), s.length + A.length + 2) := by
    rw [m0, ← hA]; exact numAt_put _ _ 2 ty
  have hB : (s ++ A ++ putB 2 ty).length = s.length + A.length + 2 := by rw [List.length_append, putB_length, hA]
  have e2 : numAt (s ++ A ++ putB 2 ty ++ putB 2 cl ++ y) 2 (s.length + A.length + 2) = .ok (numB (putB 2 cl), s.length + A.length + 2 + 2) := by
    rw [m1, ← hB]; exact numAt_put _ _ 2 cl
  have hC : (s ++ A ++ putB 2 ty ++ putB 2 cl).length = s.length + A.length + 2 + 2 := by rw [List.length_append, putB_length, hB]
  refine ⟨?_, (p2.app _).app _⟩
  unfold questAt
  rw [e0]
  simp only
  rw [e1]
  simp only
  rw [e2]
  simp only
  rw [numB_put2 _ h1, numB_put2 _ h2, hC]
theorem getR_app (m y : List UInt8) (a n : Nat) (ty cl : Int) (h : a + n ≤ m.length) : getR (m ++ y) a n ty cl = getR m a n ty cl := by
  unfold getR
  rw [List.take_append_of_le_length h]
theorem recT_ok (st : WS) (r : RR) (hT : TabOkO st.1 st.2) (hc : checkR r = 0) : TabOkO (recS st r) (recT st r) := by
  obtain ⟨p1, p2, p3⟩ := putSO_rd st.1 st.2 r.name hT (rOk_of hc).nm
  exact ((p2.app _).app _).app _
theorem recS2 (st : WS) (r : RR) (x : List UInt8) : ((recS st r ++ putB 2 x.length).length : Int) = ((recS st r).length : Int) + 2 := by
  rw [List.length_append, putB_length]; simp
theorem putRec_tab (st : WS) (r : RR) (hT : TabOkO st.1 st.2) (hw : r.wf) (hc : checkR r = 0) : TabOkO (putRec st r).1 (putRec st r).2 := by
  have h1 := (recT_ok st r hT hc).app (putB 2 (recD st r).length)
  have h2 := (getR_back _ _ r hw hc h1).2
  rw [recS2] at h2
  exact h2
theorem recAt_put (st : WS) (r : RR) (y : List UInt8) (hT : TabOkO st.1 st.2) (hw : r.wf) (hc : checkR r = 0) (hl : (recD st r).length ≤ 65535) :
    recAt ((putRec st r).1 ++ y) st.1.length = .ok (r, (putRec st r).1.length) := by
  have ok := rOk_of hc
  have h1 := (recT_ok st r hT hc).app (putB 2 (recD st r).length)
  have h2 := (getR_back _ _ r hw hc h1).1
  rw [recS2] at h2
  change getR (recS st r ++ putB 2 (recD st r).length ++ recD st r) _ (recD st r).length _ _ = _ at h2
  obtain ⟨p1, p2, p3⟩ := putSO_rd st.1 st.2 r.name hT ok.nm
  unfold putRec
  simp only
  generalize recD st r = D at *
  unfold recS at *
  generalize putSO st.2 st.1.length r.name = A at *
  obtain ⟨s, T⟩ := st
  simp only at hT h1 h2 p1 p2 p3 ⊢
  have hA : (s ++ A).length = s.length + A.length := by simp
  have hB : (s ++ A ++ putB 2 r.ty).length = s.length + A.length + 2 := by rw [List.length_append, putB_length, hA]
  have hC : (s ++ A ++ putB 2 r.ty ++ putB 2 r.cl).length = s.length + A.length + 2 + 2 := by rw [List.length_append, putB_length, hB]
  have hD : (s ++ A ++ putB 2 r.ty ++ putB 2 r.cl ++ putB 4 r.ttl).length = s.length + A.length + 2 + 2 + 4 := by rw [List.length_append, putB_length, hC]
  have hE : (s ++ A ++ putB 2 r.ty ++ putB 2 r.cl ++ putB 4 r.ttl ++ putB 2 D.length).length = s.length + A.length + 2 + 2 + 4 + 2 := by rw [List.length_append, putB_length, hD]
  obtain ⟨M, hM⟩ : ∃ M, s ++ A ++ putB 2 r.ty ++ putB 2 r.cl ++ putB 4 r.ttl ++ putB 2 D.length ++ D ++ y = M := ⟨_, rfl⟩
  have m0 : M = s ++ A ++ (putB 2 r.ty ++ (putB 2 r.cl ++ putB 4 r.ttl ++ putB 2 D.length ++ D ++ y)) := by rw [← hM]; simp
  have m1 : M = s ++ A ++ putB 2 r.ty ++ (putB 2 r.cl ++ (putB 4 r.ttl ++ putB 2 D.length ++ D ++ y)) := by rw [← hM]; simp
  have m2 : M = s ++ A ++ putB 2 r.ty ++ putB 2 r.cl ++ (putB 4 r.ttl ++ (putB 2 D.length ++ D ++ y)) := by rw [← hM]; simp
  have m3 : M = s ++ A ++ putB 2 r.ty ++ putB 2 r.cl ++ putB 4 r.ttl ++ (putB 2 D.length ++ (D ++ y)) := by rw [← hM]; simp
  have hMl : M.length = s.length + A.length + 2 + 2 + 4 + 2 + D.length + y.length := by rw [← hM, List.length_append, List.length_append, hE]
  have e0 : nameAt M s.length = .ok (r.name, s.length + A.length) := by rw [m0]; exact nameAt_rd (p1.app _) (by simp) ok.nm
  have e1 : numAt M 2 (s.length + A.length) = .ok (numB (putB 2 r.ty), s.length + A.length + 2) := by rw [m0, ← hA]; exact numAt_put _ _ 2 _
  have e2 : numAt M 2 (s.length + A.length + 2) = .ok (numB (putB 2 r.cl), s.length + A.length + 2 + 2) := by rw [m1, ← hB]; exact numAt_put _ _ 2 _
  have e3 : numAt M 4 (s.length + A.length + 2 + 2) = .ok (numB (putB 4 r.ttl), s.length + A.length + 2 + 2 + 4) := by rw [m2, ← hC]; exact numAt_put _ _ 4 _
  have e4 : numAt M 2 (s.length + A.length + 2 + 2 + 4) = .ok (numB (putB 2 D.length), s.length + A.length + 2 + 2 + 4 + 2) := by rw [m3, ← hD]; exact numAt_put _ _ 2 _
  have hsz : numB (putB 2 D.length) = D.length := by
    have := numB_put2 (D.length : Int) (by simp [inB]; omega)
    omega
  have e5 : getR M (s.length + A.length + 2 + 2 + 4 + 2) D.length r.ty r.cl = .ok (onlyD r) := by
    rw [← hM, getR_app _ _ _ _ _ _ (by rw [List.length_append, hE]; omega), ← hE]; exact h2
  rw [hM]
  unfold recAt
  rw [e0]
  simp only
  rw [e1]
  simp only
  rw [e2]
  simp only
  rw [e3]
  simp only
  rw [e4, hsz]
  simp only
  rw [if_neg (by omega), numB_put2 _ ok.ty, numB_put2 _ ok.cl, e5]
  simp only
  rw [numB_put4 _ ok.ttl]
  simp only [onlyD]
  rw [List.length_append, hE]
theorem putRec_d (st : WS) (r : RR) : (recD st r).length ≤ (putRec st r).1.length := by simp [putRec]; omega
/-- A list that is put. -/
theorem many_put {α : Type} (f : WS → α → WS) (g : List UInt8 → Nat → Except Int (α × Nat)) (ok : α → Prop) (hpre : ∀ st x, ∃ z, (f st x).1 = st.1 ++ z)
    (hstep : ∀ st x y, TabOkO st.1 st.2 → ok x → (f st x).1.length ≤ 65535 → g ((f st x).1 ++ y) st.1.length = .ok (x, (f st x).1.length) ∧ TabOkO (f st x).1 (f st x).2) :
    ∀ (l : List α) (st : WS) (y : List UInt8), TabOkO st.1 st.2 → (∀ x ∈ l, ok x) → (l.foldl f st).1.length ≤ 65535 →
      (∃ z, (l.foldl f st).1 = st.1 ++ z) ∧ manyAt (g ((l.foldl f st).1 ++ y)) l.length st.1.length = .ok (l, (l.foldl f st).1.length) ∧ TabOkO (l.foldl f st).1 (l.foldl f st).2
  | [], st, y, hT, _, _ => ⟨⟨[], by simp⟩, rfl, hT⟩
  | x :: l, st, y, hT, hok, hl => by
    simp only [List.foldl_cons] at hl ⊢
    obtain ⟨z0, hz0⟩ := hpre st x
    have fpre : ∀ (l : List α) (st : WS), ∃ z, (l.foldl f st).1 = st.1 ++ z := by
      intro l
      induction l with
      | nil => intro st; exact ⟨[], by simp⟩
      | cons a l ih =>
        intro st
        obtain ⟨z1, h1⟩ := ih (f st a)
        obtain ⟨z2, h2⟩ := hpre st a
        exact ⟨z2 ++ z1, by rw [List.foldl_cons, h1, h2, List.append_assoc]⟩
    obtain ⟨z1, hz1⟩ := fpre l (f st x)
    have hl1 : (f st x).1.length ≤ 65535 := by rw [hz1, List.length_append] at hl; omega
    obtain ⟨s1, s2⟩ := hstep st x (z1 ++ y) hT (hok x (List.mem_cons_self ..)) hl1
    obtain ⟨⟨z, i1⟩, i2, i3⟩ := many_put f g ok hpre hstep l (f st x) y s2 (fun a ha => hok a (List.mem_cons_of_mem _ ha)) hl
    refine ⟨⟨z0 ++ z1, by rw [hz1, hz0, List.append_assoc]⟩, ?_, i3⟩
    rw [List.length_cons]
    unfold manyAt
    rw [← List.append_assoc, ← hz1] at s1
    rw [s1]
    simp only
    rw [i2]
theorem putQ_pre (st : WS) (q : Qn) : ∃ z, (putQ st q).1 = st.1 ++ z := ⟨putSO st.2 st.1.length q.name ++ putB 2 q.ty ++ putB 2 q.cl, by simp [putQ]⟩
theorem putRec_pre (st : WS) (r : RR) : ∃ z, (putRec st r).1 = st.1 ++ z := ⟨_, by unfold putRec recS; simp only [List.append_assoc]; rfl⟩
theorem checkM_q {m : Msg} (h : checkM m = 0) : ∀ q ∈ m.qs, qE q = 0 := by
  unfold checkM at h
  cases hk : m.hd.ok with
  | false => rw [if_pos hk] at h; cases h
  | true =>
    rw [if_neg (by simp [hk])] at h
    by_cases h1 : 65535 < m.qs.length ∨ 65535 < m.an.length ∨ 65535 < m.au.length ∨ 65535 < m.ex.length
    · rw [if_pos h1] at h; cases h
    · rw [if_neg h1] at h
      by_cases h2 : fstE (m.qs.map qE) = 0
      · exact fun q hq => fstE_zero h2 _ (List.mem_map_of_mem hq)
      · rw [if_pos h2] at h; exact absurd h h2
theorem start_tab (m : Msg) (pack : Bool) : TabOkO (startM m pack).1 (startM m pack).2 := by
  intro T e
  cases pack with
  | false => cases e
  | true => obtain rfl : [] = T := by simpa [startM] using e
            exact tabOk_nil _
theorem rrs_mem {m : Msg} {r : RR} : r ∈ m.rrs ↔ r ∈ m.an ∨ r ∈ m.au ∨ r ∈ m.ex := by simp [Msg.rrs, or_assoc]
/-- What is encoded is decoded. -/
theorem decM_enc (m : Msg) (pack : Bool) (hw : ∀ r ∈ m.rrs, r.wf) (hc : checkM m = 0) (hl : (encS m pack).1.length ≤ 65535) : decM (encS m pack).1 = .ok m := by
  have ok := mOk_of hc
  have okq := checkM_q hc
  rw [encS_eq] at hl ⊢
  have HQ : ∀ st x y, TabOkO st.1 st.2 → qE x = 0 → (putQ st x).1.length ≤ 65535 → questAt ((putQ st x).1 ++ y) st.1.length = .ok (x, (putQ st x).1.length) ∧ TabOkO (putQ st x).1 (putQ st x).2 := fun st x y h1 h2 _ => questAt_put st x y h1 h2
  have HR : ∀ st x y, TabOkO st.1 st.2 → (x.wf ∧ checkR x = 0) → (putRec st x).1.length ≤ 65535 → recAt ((putRec st x).1 ++ y) st.1.length = .ok (x, (putRec st x).1.length) ∧ TabOkO (putRec st x).1 (putRec st x).2 := fun st x y h1 h2 h3 => ⟨recAt_put st x y h1 h2.1 h2.2 (Nat.le_trans (putRec_d st x) h3), putRec_tab st x h1 h2.1 h2.2⟩
  have okR : ∀ l : List RR, (∀ r ∈ l, r ∈ m.rrs) → ∀ r ∈ l, r.wf ∧ checkR r = 0 := fun l h r hr => ⟨hw r (h r hr), ok.r r (h r hr)⟩
  have oka := okR m.an (fun r h => rrs_mem.2 (.inl h))
  have oku := okR m.au (fun r h => rrs_mem.2 (.inr (.inl h)))
  have oke := okR m.ex (fun r h => rrs_mem.2 (.inr (.inr h)))
  have T0 := start_tab m pack
  have L0 := start_len m pack
  have P0 : (startM m pack).1 = putHead m.hd m.qs.length m.an.length m.au.length m.ex.length := rfl
  generalize startM m pack = s0 at *
  obtain ⟨s1, h1⟩ : ∃ s, m.qs.foldl putQ s0 = s := ⟨_, rfl⟩
  rw [h1] at hl ⊢
  obtain ⟨s2, h2⟩ : ∃ s, m.an.foldl putRec s1 = s := ⟨_, rfl⟩
  rw [h2] at hl ⊢
  obtain ⟨s3, h3⟩ : ∃ s, m.au.foldl putRec s2 = s := ⟨_, rfl⟩
  rw [h3] at hl ⊢
  obtain ⟨s4, h4⟩ : ∃ s, m.ex.foldl putRec s3 = s := ⟨_, rfl⟩
  rw [h4] at hl ⊢
  have l4 := foldR_len m.ex s3
  have l3 := foldR_len m.au s2
  have l2 := foldR_len m.an s1
  have l1 := foldQ_len m.qs s0
  rw [h4] at l4
  rw [h3] at l3
  rw [h2] at l2
  rw [h1] at l1
  have A1 := fun y => many_put putQ questAt (fun q => qE q = 0) putQ_pre HQ m.qs s0 y T0 okq (by rw [h1]; omega)
  simp only [h1] at A1
  have A2 := fun y => many_put putRec recAt (fun r => r.wf ∧ checkR r = 0) putRec_pre HR m.an s1 y (A1 []).2.2 oka (by rw [h2]; omega)
  simp only [h2] at A2
  have A3 := fun y => many_put putRec recAt (fun r => r.wf ∧ checkR r = 0) putRec_pre HR m.au s2 y (A2 []).2.2 oku (by rw [h3]; omega)
  simp only [h3] at A3
  have A4 := fun y => many_put putRec recAt (fun r => r.wf ∧ checkR r = 0) putRec_pre HR m.ex s3 y (A3 []).2.2 oke (by rw [h4]; omega)
  simp only [h4] at A4
  obtain ⟨z4, e4⟩ := (A4 []).1
  obtain ⟨z3, e3⟩ := (A3 []).1
  obtain ⟨z2, e2⟩ := (A2 []).1
  obtain ⟨z1, e1⟩ := (A1 []).1
  have B4 := (A4 []).2.1
  rw [List.append_nil] at B4
  have B3 := (A3 z4).2.1
  rw [← e4] at B3
  have B2 := (A2 (z3 ++ z4)).2.1
  rw [← List.append_assoc, ← e3, ← e4] at B2
  have B1 := (A1 (z2 ++ (z3 ++ z4))).2.1
  rw [← List.append_assoc, ← List.append_assoc, ← e2, ← e3, ← e4] at B1
  have M : s4.1 = putHead m.hd m.qs.length m.an.length m.au.length m.ex.length ++ (z1 ++ z2 ++ z3 ++ z4) := by rw [e4, e3, e2, e1, P0]; simp
  obtain ⟨a0, a2, a4, a6, a8, a10⟩ := at2_put m.hd m.qs.length m.an.length m.au.length m.ex.length (z1 ++ z2 ++ z3 ++ z4)
  rw [← M] at a0 a2 a4 a6 a8 a10
  have n2 : ∀ k : Nat, k ≤ 65535 → numB (putB 2 (k : Int)) = k := fun k hk => by have := numB2 (k : Int) ⟨by omega, by omega⟩; omega
  unfold decM
  rw [if_neg (by omega), if_neg (by omega), a0, a2, a4, a6, a8, a10, n2 _ ok.lq, n2 _ ok.la, n2 _ ok.lu, n2 _ ok.le, num_bits _ ok.hd, ← L0, B1]
  simp only
  rw [B2]
  simp only
  rw [B3]
  simp only
  rw [B4]
  simp only
  rw [if_neg (Nat.lt_irrefl _)]
/-- Packed a name is not longer. -/
theorem putSO_le (x : List UInt8) (T : Option Tab) (n : List (List UInt8)) (hT : TabOkO x T) (b : Int) (hc : checkN n = 0) : (putSO T x.length n).length ≤ (putSO none b n).length := by
  have h1 := (putSO_rd x T n hT hc).2.2
  have h2 := (putZ_rd x n hc).1
  show _ ≤ (putZ n).length
  omega
theorem dataR_le (s : List UInt8) (T : Option Tab) (r : RR) (hc : checkR r = 0) (hT : TabOkO s T) (b : Int) : (dataR T s.length r).length ≤ (dataR none b r).length := by
  have hE := (rOk_of hc).has
  unfold hasE at hE
  unfold dataR
  split
  · exact Nat.le_refl _
  rename_i k1
  rw [if_neg k1] at hE
  split
  · exact Nat.le_refl _
  rename_i k2
  rw [if_neg k2] at hE
  split
  · rename_i k3
    rw [if_pos k3] at hE
    exact putSO_le s T r.tg hT b hE
  rename_i k3
  rw [if_neg k3] at hE
  split
  · exact Nat.le_refl _
  rename_i k4
  rw [if_neg k4] at hE
  split
  · rename_i k5
    rw [if_pos k5] at hE
    by_cases e1 : checkN r.tg = 0
    · rw [if_neg (by simp [e1])] at hE
      by_cases e2 : checkN r.ml = 0
      · obtain ⟨p1, p2, p3⟩ := putSO_rd s T r.tg hT e1
        have h1 := putSO_le s T r.tg hT b e1
        have hat : ((s.length : Int) + ((putSO T s.length r.tg).length : Int)) = (((s ++ putSO T s.length r.tg).length : Nat) : Int) := by simp
        rw [hat]
        have h2 := putSO_le _ _ r.ml p2 (b + ((putSO none b r.tg).length : Int)) e2
        simp only [List.length_append, putTO, Option.map_none] at h2 ⊢
        omega
      · rw [if_pos e2] at hE; exact absurd hE e2
    · rw [if_pos e1] at hE; exact absurd hE e1
  · exact Nat.le_refl _
theorem foldQ_le : ∀ (l : List Qn) (st st' : WS), (∀ q ∈ l, qE q = 0) → TabOkO st.1 st.2 → st'.2 = none → st.1.length ≤ st'.1.length → TabOkO (l.foldl putQ st).1 (l.foldl putQ st).2 ∧ (l.foldl putQ st').2 = none ∧ (l.foldl putQ st).1.length ≤ (l.foldl putQ st').1.length
  | [], st, st', _, h1, h2, h3 => ⟨h1, h2, h3⟩
  | q :: l, st, st', hq, h1, h2, h3 => by
    rw [List.foldl_cons, List.foldl_cons]
    have q0 := hq q (List.mem_cons_self ..)
    refine foldQ_le l (putQ st q) (putQ st' q) (fun a ha => hq a (List.mem_cons_of_mem _ ha)) (questAt_put st q [] h1 q0).2 (by simp [putQ, h2, putTO]) ?_
    have := putSO_le st.1 st.2 q.name h1 (st'.1.length : Int) (qE_ok q0).1
    unfold putQ
    simp only [List.length_append, putB_length, h2]
    omega
theorem foldR_le : ∀ (l : List RR) (st st' : WS), (∀ r ∈ l, r.wf ∧ checkR r = 0) → TabOkO st.1 st.2 → st'.2 = none → st.1.length ≤ st'.1.length → TabOkO (l.foldl putRec st).1 (l.foldl putRec st).2 ∧ (l.foldl putRec st').2 = none ∧ (l.foldl putRec st).1.length ≤ (l.foldl putRec st').1.length
  | [], st, st', _, h1, h2, h3 => ⟨h1, h2, h3⟩
  | r :: l, st, st', hr, h1, h2, h3 => by
    rw [List.foldl_cons, List.foldl_cons]
    obtain ⟨r0, r1⟩ := hr r (List.mem_cons_self ..)
    have t2 : recT st' r = none := by simp [recT, h2, putTO]
    have tt : ∀ b : Int, tabR none b r = none := fun b => by unfold tabR; split <;> (try split) <;> simp [putTO]
    refine foldR_le l (putRec st r) (putRec st' r) (fun a ha => hr a (List.mem_cons_of_mem _ ha)) (putRec_tab st r h1 r0 r1) (by show tabR (recT st' r) _ r = none; rw [t2]; exact tt _) ?_
    have a1 := putSO_le st.1 st.2 r.name h1 (st'.1.length : Int) (rOk_of r1).nm
    have h4 := (recT_ok st r h1 r1).app (putB 2 (recD st r).length)
    have a2 := dataR_le _ _ r r1 h4 (((recS st' r).length : Int) + 2)
    rw [recS2] at a2
    have a2' : (recD st r).length ≤ (recD st' r).length := by unfold recD; rw [t2]; exact a2
    have a3 : (recS st r).length ≤ (recS st' r).length := by unfold recS; simp only [List.length_append, putB_length, h2]; omega
    unfold putRec
    simp only [List.length_append, putB_length]
    omega
/-- Packed it is not longer. -/
theorem encS_le (m : Msg) (hw : ∀ r ∈ m.rrs, r.wf) (hc : checkM m = 0) : (encS m true).1.length ≤ (encS m false).1.length := by
  have ok := mOk_of hc
  obtain ⟨q1, q2, q3⟩ := foldQ_le m.qs (startM m true) (startM m false) (checkM_q hc) (start_tab m true) rfl (Nat.le_refl _)
  exact (foldR_le m.rrs _ _ (fun r hr => ⟨hw r hr, ok.r r hr⟩) q1 q2 q3).2.2
end Go.Proofs.Ytlmgdogblbigpaa
