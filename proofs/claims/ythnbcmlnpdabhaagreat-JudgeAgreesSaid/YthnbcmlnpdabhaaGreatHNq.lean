/-
  Layer 12 (packed), the plain law of PackedBack: what is put, one behind the other, is got.
-/
import Derived.Test.YthnbcmlnpdabhaaGreatHAq
namespace Go.Proofs.YthnbcmlnpdabhaaGreat
open _root_.Go.Proofs.Tryz
set_option linter.unusedVariables false
theorem PQ (x : List UInt8) (T : List (List (List UInt8) × Nat)) (hT : vE x T) (n : List (List UInt8)) (hc : nH n = 0) :
  (∃ a, Cz T x.length n = a /\ a.length <= oC n + 1 /\ Rd (x ++ a) x.length x.length n (x.length + a.length)) /\ vE (x ++ Cz T x.length n) (EB T x.length n) := by
 obtain ⟨hg, hs⟩ := qB hc;obtain ⟨⟨a, h1, h2, h3, h4⟩, h5⟩ := Uo T x hT n [] hg;unfold Cz EB;rw [if_pos hc, if_pos hc];refine ⟨⟨_, rfl, ?_, ?_⟩, ?_⟩
 ·rw [h1]; simpa using h2
 ·have := h4 x.length (Nat.le_refl _);rw [h1]; simpa using this
 ·
  intro r hr;rcases List.mem_append.1 hr with h | h
  ·exact hT.app _ r h
  ·exact h5 r h
theorem DT (x : List UInt8) : vE x [] := by intro r hr; cases hr
theorem Ff (x : List UInt8) (n : List (List UInt8)) (hc : nH n = 0) : (rR n).length = oC n + 1 /\ Rd (x ++ rR n) x.length x.length n (x.length + (rR n).length) := by
 have e : Cz [] x.length n = rR n := by unfold Cz rR Gp;rw [if_pos hc, if_pos hc, Ok]; simp
 obtain ⟨⟨a, h1, h2, h3⟩, _⟩ := PQ x [] (DT x) n hc;rw [e] at h1;subst h1;refine ⟨?_, h3⟩;unfold rR Gp;rw [if_pos hc, List.length_append, pb]; rfl
set_option linter.unusedSimpArgs false
set_option maxRecDepth 10000
def pz (m : List UInt8) (T : Option uE) : Prop := ∀ T', T = some T' -> vE m T'
theorem pz.app {m : List UInt8} {T : Option uE} (h : pz m T) (y : List UInt8) : pz (m ++ y) T := fun T' e => (h T' e).app y
theorem s6 (x : List UInt8) (T : Option uE) (n : List (List UInt8)) (hT : pz x T) (hc : nH n = 0) :
  Rd (x ++ og T x.length n) x.length x.length n (x.length + (og T x.length n).length) /\ pz (x ++ og T x.length n) (o8 T x.length n) /\ (og T x.length n).length <= oC n + 1 := by
 cases T with
 | none => obtain ⟨h1, h2⟩ := Ff x n hc;exact ⟨h2, fun T' e => (by cases e), (by show (rR n).length <= _; omega)⟩
 | some T => obtain ⟨⟨a, h1, h2, h3⟩, h4⟩ := PQ x T (hT T rfl) n hc;subst h1;exact ⟨h3, fun T' e => (by cases e; exact h4), h2⟩
theorem yH {m : List UInt8} {p : Nat} {n : List (List UInt8)} {e : Nat} (h : Rd m p p n e) (hp : p <= m.length) (hc : nH n = 0) : nameAt m p = .ok (n, e) := by
 unfold nameAt;rw [Sf h hp (qB hc).2]
theorem xY {m : List UInt8} {p : Nat} {n : List (List UInt8)} {e : Nat} (h : Rd m p p n e) (hp : p <= m.length) (hc : nH n = 0) : tE m p = .ok (n, e) := by
 unfold tE;rw [yH h hp hc]
theorem r6 (n : Int) (h : uc 65535 n = true) : ((oE (ny 2 n) : Nat) : Int) = n := by
 have h2 := yr 2 n;exact lQ
theorem tP (n : Int) (h : uc 4294967295 n = true) : ((oE (ny 4 n) : Nat) : Int) = n := by
 have h2 := yr 4 n;exact lQ
def KW (r : RR) : RR := { r with name := [], ty := 0, cl := 0, ttl := 0 }
structure W7 (r : RR) : Prop where
 nm : nH r.name = 0
 ty : uc 65535 r.ty = true
 cl : uc 65535 r.cl = true
 ttl : uc 4294967295 r.ttl = true
 has : tG r = 0
 bare : zZ (tp r) = true
theorem Bb {r : RR} (h : nU r = 0) : W7 r := by
 unfold nU at h;by_cases h1 : nH r.name = 0
 ·
  rw [if_neg (by simp [h1])] at h;by_cases h2 : ¬ ([r.ty, r.cl].all (uc 65535)) = true \/ ¬ uc 4294967295 r.ttl = true
  ·rw [if_pos h2] at h; cases h
  ·
   rw [if_neg h2] at h;by_cases h3 : tG r = 0
   ·
    rw [if_neg (by simp [h3])] at h;by_cases h4 : zZ (tp r) = true
    ·simp only [not_or, Classical.not_not, List.all_cons, List.all_nil, Bool.and_true, Bool.and_eq_true] at h2;exact ⟨h1, h2.1.1, h2.1.2, h2.2, h3, h4⟩
    ·rw [if_neg h4] at h; cases h
   ·rw [if_pos h3] at h; exact absurd h h3
 ·exact mP
theorem uM {r : RR} : zZ r = true ↔ r.ad = oi.zero /\ r.tg = [] /\ r.ml = [] /\ r.pri = 0 /\ r.we = 0 /\ r.po = 0 /\ r.nums = [0, 0, 0, 0, 0] /\ r.raw = [] := by
 simp [zZ, and_assoc]
theorem rB (s d : List UInt8) : (s ++ d).take (s.length + d.length) = s ++ d := List.take_of_length_le ag
theorem DU (s : List UInt8) (T : Option uE) (r : RR) (hw : r.wf) (hc : nU r = 0) (hT : pz s T) :
  rJ (s ++ sk T s.length r) s.length (sk T s.length r).length r.ty r.cl = .ok (KW r) /\ pz (s ++ sk T s.length r) (wW T s.length r) := by
 have ok := Bb hc;have hE := ok.has;have hB := ok.bare;obtain ⟨name, ty, cl, ttl, ad, tg, ml, pri, we, po, nums, raw⟩ := r;have hw1 : ad.ip.length = 16 := hw.1;have hw2 : nums.length = 5 := hw.2;unfold rJ sk wW;unfold tG at hE;unfold tp at hB;simp only at hE hB ⊢;rcases vK ty cl with h | h | h | h | h | h
 ·
  -- A
  simp only [h] at hE hB ⊢;simp only [if_true, true_or, show ¬ ((1 : Int) = 28) by decide, show ¬ ((1 : Int) = 5) by decide, show ¬ ((1 : Int) = 12) by decide, show ¬ ((1 : Int) = 6) by decide, or_self, if_false] at hE hB ⊢;obtain ⟨b1, b2, b3, b4, b5, b6, b7, b8⟩ := uM.1 hB;simp only at b1 b2 b3 b4 b5 b6 b7 b8;have hd : (ad.ip.take 4).length = 4 := by simp [hw1]
  refine ⟨?_, hT.app _⟩;rw [if_pos hd, rB, List.drop_left];split at hE
  ·cases hE
  ·
   rename_i hn;simp only [not_or, Classical.not_not] at hn;obtain ⟨n1, n2, n3⟩ := hn;have n4 : ad.ip.drop 4 = List.replicate 12 0 := by
    unfold oi.check at n1;rw [if_pos n2] at n1;split at n1
    ·rename_i hh; exact hh.1
    ·cases n1
   have e : ad = ⟨4, ad.ip.take 4 ++ List.replicate 12 0, 0⟩ := by rw [<- n4, List.take_append_drop, <- n2, <- n3]
   exact mQ
 ·
  -- AAAA
  simp only [h] at hE hB ⊢;simp only [if_true, or_true, show ¬ ((28 : Int) = 1) by decide, show ¬ ((28 : Int) = 5) by decide, show ¬ ((28 : Int) = 12) by decide, show ¬ ((28 : Int) = 6) by decide, or_self, if_false] at hE hB ⊢;obtain ⟨b1, b2, b3, b4, b5, b6, b7, b8⟩ := uM.1 hB;simp only at b1 b2 b3 b4 b5 b6 b7 b8;refine ⟨?_, hT.app _⟩;rw [if_pos hw1, rB, List.drop_left];split at hE
  ·cases hE
  ·
   rename_i hn;simp only [not_or, Classical.not_not] at hn;obtain ⟨n1, n2, n3⟩ := hn;have e : ad = ⟨6, ad.ip, 0⟩ := by rw [<- n2, <- n3]
   exact mQ
 ·
  -- names
  have h1 : ¬ nX ty cl = 1 := jy;have h2 : ¬ nX ty cl = 28 := jy;have h12 : ¬ (nX ty cl = 1 \/ nX ty cl = 28) := ak;rw [if_neg h1, if_neg h2, if_pos h] at hE;rw [if_neg h12, if_pos h] at hB;rw [if_neg h1, if_neg h2, if_pos h, if_neg h1, if_neg h2, if_pos h, if_pos h];obtain ⟨b1, b2, b3, b4, b5, b6, b7, b8⟩ := uM.1 hB;simp only at b1 b2 b3 b4 b5 b6 b7 b8;obtain ⟨p1, p2, p3⟩ := s6 s T tg hT hE;refine ⟨?_, p2⟩;rw [rB];unfold qP;rw [xY p1 ag hE];simp only;rw [if_pos ag];subst b1 b3 b4 b5 b6 b7 b8;rfl
 ·
  -- SRV
  simp only [h] at hE hB ⊢;simp only [if_true, show ¬ ((33 : Int) = 1) by decide, show ¬ ((33 : Int) = 28) by decide, show ¬ ((33 : Int) = 5) by decide, show ¬ ((33 : Int) = 12) by decide, show ¬ ((33 : Int) = 6) by decide, or_self, if_false] at hE hB ⊢;obtain ⟨b1, b2, b3, b4, b5, b6, b7, b8⟩ := uM.1 hB;simp only at b1 b2 b3 b4 b5 b6 b7 b8;split at hE
  ·
   rename_i hn;simp only [List.all_cons, List.all_nil, Bool.and_true, Bool.and_eq_true] at hn;obtain ⟨n1, n2, n3⟩ := hn;refine ⟨?_, hT.app _⟩;obtain ⟨z1, z2⟩ := Ff (s ++ (ny 2 pri ++ ny 2 we ++ ny 2 po)) tg hE;have hl6 : (ny 2 pri ++ ny 2 we ++ ny 2 po).length = 6 := by simp [np]
   have hl : (s ++ (ny 2 pri ++ ny 2 we ++ ny 2 po)).length = s.length + 6 := by rw [List.length_append, hl6]
   rw [if_neg bZ, rB];rw [hl, List.append_assoc] at z2;unfold qP;rw [xY z2 bZ hE];simp only;rw [if_pos bZ, List.drop_left];have t1 : (ny 2 pri ++ ny 2 we ++ ny 2 po ++ rR tg).take 2 = ny 2 pri := by rw [List.append_assoc, List.append_assoc]; exact List.take_left' (np 2 _)
   have d2 : (ny 2 pri ++ ny 2 we ++ ny 2 po ++ rR tg).drop 2 = ny 2 we ++ (ny 2 po ++ rR tg) := by rw [List.append_assoc, List.append_assoc]; exact List.drop_left' (np 2 _)
   have d4 : (ny 2 pri ++ ny 2 we ++ ny 2 po ++ rR tg).drop 4 = ny 2 po ++ rR tg := by rw [show (4 : Nat) = 2 + 2 from rfl, <- List.drop_drop, d2]; exact List.drop_left' (np 2 _)
   rw [t1, d2, d4, List.take_left' (np 2 _), List.take_left' (np 2 _), r6 _ n1, r6 _ n2, r6 _ n3];subst b1 b3 b7 b8;rfl
  ·cases hE
 ·
  -- SOA
  simp only [h] at hE hB ⊢;simp only [if_true, show ¬ ((6 : Int) = 1) by decide, show ¬ ((6 : Int) = 28) by decide, show ¬ ((6 : Int) = 5) by decide, show ¬ ((6 : Int) = 12) by decide, show ¬ ((6 : Int) = 33) by decide, or_self, if_false] at hE hB ⊢;obtain ⟨b1, b2, b3, b4, b5, b6, b7, b8⟩ := uM.1 hB;simp only at b1 b2 b3 b4 b5 b6 b7 b8;by_cases e1 : nH tg = 0
  ·
   rw [if_neg (by simp [e1])] at hE;by_cases e2 : nH ml = 0
   ·
    rw [if_neg (by simp [e2])] at hE;split at hE
    ·
     rename_i hn;obtain ⟨p1, p2, p3⟩ := s6 s T tg hT e1;obtain ⟨A, hA⟩ : ∃ A, A = og T s.length tg := eE;rw [<- hA] at p1 p2 p3 ⊢;have hat : ((s.length : Int) + (A.length : Int)) = (((s ++ A).length : Nat) : Int) := ag;rw [hat];obtain ⟨q1, q2, q3⟩ := s6 (s ++ A) (o8 T s.length tg) ml p2 e2;obtain ⟨B, hB'⟩ : ∃ B, B = og (o8 T s.length tg) ((s ++ A).length : Nat) ml := eE;rw [<- hB'] at q1 q2 q3 ⊢;obtain ⟨N, hN⟩ : ∃ N, N = nums.flatMap (ny 4) := eE;rw [<- hN];have hNl : N.length = 20 := by
      rw [hN];match nums, hw2 with
      | [x0, x1, x2, x3, x4], _ => simp [np]
     have hm : s ++ (A ++ B ++ N) = s ++ A ++ B ++ N := ag;refine ⟨?_, by rw [hm]; exact q2.app _⟩;rw [rB, hm];have p1' : Rd (s ++ A ++ B ++ N) s.length s.length tg (s.length + A.length) := (p1.app B).app N;have q1' : Rd (s ++ A ++ B ++ N) (s ++ A).length (s ++ A).length ml ((s ++ A).length + B.length) := q1.app N;rw [xY p1' cf e1];simp only;rw [show s.length + A.length = (s ++ A).length by simp, xY q1' cf e2];simp only;rw [if_pos (by simp only [List.length_append, hNl])];have hnum : yA (s ++ A ++ B ++ N) ((s ++ A).length + B.length) = nums := by
      have hd : (s ++ A ++ B ++ N).drop ((s ++ A).length + B.length) = N := by rw [<- List.length_append, List.drop_left]
      unfold yA;simp only [<- List.drop_drop, hd];match nums, hw2, hN, hn with
      | [x0, x1, x2, x3, x4], _, hN, hn =>
       simp only [List.all_cons, List.all_nil, Bool.and_true, Bool.and_eq_true] at hn;obtain ⟨n0, n1, n2, n3, n4⟩ := hn;have hN' : N = ny 4 x0 ++ (ny 4 x1 ++ (ny 4 x2 ++ (ny 4 x3 ++ (ny 4 x4)))) := by rw [hN]; simp
       have f1 : N.drop 4 = ny 4 x1 ++ (ny 4 x2 ++ (ny 4 x3 ++ (ny 4 x4))) := by rw [hN']; exact List.drop_left' (np 4 _)
       have f2 : N.drop 8 = ny 4 x2 ++ (ny 4 x3 ++ (ny 4 x4)) := by rw [show (8 : Nat) = 4 + 4 from rfl, <- List.drop_drop, f1]; exact List.drop_left' (np 4 _)
       have f3 : N.drop 12 = ny 4 x3 ++ (ny 4 x4) := by rw [show (12 : Nat) = 8 + 4 from rfl, <- List.drop_drop, f2]; exact List.drop_left' (np 4 _)
       have f4 : N.drop 16 = ny 4 x4 := by rw [show (16 : Nat) = 12 + 4 from rfl, <- List.drop_drop, f3]; exact List.drop_left' (np 4 _)
       have g0 : N.take 4 = ny 4 x0 := by rw [hN']; exact List.take_left' (np 4 _)
       rw [f1, f2, f3, f4, g0, List.take_left' (np 4 _), List.take_left' (np 4 _), List.take_left' (np 4 _), List.take_of_length_le (by rw [np]; omega), tP _ n0, tP _ n1, tP _ n2, tP _ n3, tP _ n4]
     rw [hnum];subst b1 b4 b5 b6 b8;rfl
    ·cases hE
   ·rw [if_pos e2] at hE; exact absurd hE e2
  ·rw [if_pos e1] at hE; exact absurd hE e1
 ·
  -- others
  simp only [h] at hE hB ⊢;simp only [if_true, show ¬ ((0 : Int) = 1) by decide, show ¬ ((0 : Int) = 28) by decide, show ¬ ((0 : Int) = 5) by decide, show ¬ ((0 : Int) = 12) by decide, show ¬ ((0 : Int) = 33) by decide, show ¬ ((0 : Int) = 6) by decide, or_self, if_false] at hE hB ⊢;obtain ⟨b1, b2, b3, b4, b5, b6, b7, b8⟩ := uM.1 hB;simp only at b1 b2 b3 b4 b5 b6 b7 b8;refine ⟨?_, hT.app _⟩;rw [rB, List.drop_left];subst b1 b2 b3 b4 b5 b6 b7;rfl
open Go.RowKit
set_option maxRecDepth 100000
theorem xo (b : Bool) (n : Int) : ∃ x : Int, pY b n = n * x /\ 0 <= x /\ x <= 1 /\ (x == 1) = b := by
 cases b
 ·exact ⟨0, by simp [pY], ak, ak, rfl⟩
 ·exact ⟨1, by simp [pY], ak, ak, rfl⟩
theorem DW (h : Hd) : h.ok = true ↔ (0 <= h.id /\ h.id <= 65535) /\ (0 <= h.op /\ h.op <= 15) /\ (0 <= h.rc /\ h.rc <= 15) := by simp [Hd.ok, and_assoc]
theorem MZ (h : Hd) (hk : h.ok = true) : 0 <= h.num /\ h.num <= 65535 := by
 obtain ⟨_, ⟨o0, o1⟩, ⟨r0, r1⟩⟩ := (DW h).1 hk;have a := n8 h.qr 32768 aj;have b := n8 h.aa 1024 aj;have c := n8 h.tc 512 aj;have d := n8 h.rd 256 aj;have e := n8 h.ra 128 aj;have f := n8 h.ad 32 aj;have g := n8 h.cd 16 aj;unfold Hd.num;omega
theorem PR (n : Int) (h : 0 <= n /\ n <= 65535) : (oE (ny 2 n) : Int) = n := by
 rw [yr];have : ((256 ^ 2 : Nat) : Int) = 65536 := rfl;rw [this]; omega
theorem PS (h : Hd) (hk : h.ok = true) : Af (oE (ny 2 h.id)) (oE (ny 2 h.num)) = h := by
 have hn := PR h.num (MZ h hk);obtain ⟨hi, ⟨o0, o1⟩, ⟨r0, r1⟩⟩ := (DW h).1 hk;have hid := PR h.id hi;generalize oE (ny 2 h.num) = N at *;generalize oE (ny 2 h.id) = I at *;obtain ⟨id, qr, op, aa, tc, rd, ra, ad, cd, rc⟩ := h;simp only [Hd.num] at *;obtain ⟨x1, e1, p1, q1, rfl⟩ := xo qr 32768;obtain ⟨x2, e2, p2, q2, rfl⟩ := xo aa 1024;obtain ⟨x3, e3, p3, q3, rfl⟩ := xo tc 512;obtain ⟨x4, e4, p4, q4, rfl⟩ := xo rd 256;obtain ⟨x5, e5, p5, q5, rfl⟩ := xo ra 128;obtain ⟨x6, e6, p6, q6, rfl⟩ := xo ad 32;obtain ⟨x7, e7, p7, q7, rfl⟩ := xo cd 16;rw [e1, e2, e3, e4, e5, e6, e7] at hn;have key : ∀ (k : Nat) (x : Int), (0 <= x /\ x <= 1) -> (N : Int) / (k : Int) % 2 = x -> uF N k = (x == 1) := by intro k x hx he;rw [<- VL, he]
 simp only [Af, Hd.mk.injEq];refine ⟨hid, key 32768 x1 ⟨p1, q1⟩ ?_, ?_, key 1024 x2 ⟨p2, q2⟩ ?_, key 512 x3 ⟨p3, q3⟩ ?_, key 256 x4 ⟨p4, q4⟩ ?_, key 128 x5 ⟨p5, q5⟩ ?_, key 32 x6 ⟨p6, q6⟩ ?_, key 16 x7 ⟨p7, q7⟩ ?_, ?_⟩;all_goals omega
theorem wN (a b c : List UInt8) (k : Nat) (ha : a.length = k) (hb : b.length = 2) : sm (a ++ (b ++ c)) k = oE b := by
 subst ha;unfold sm;rw [List.drop_left, <- hb, List.take_left]
theorem SC (h : Hd) (c0 c1 c2 c3 : Int) (more : List UInt8) : sm (pP h c0 c1 c2 c3 ++ more) 0 = oE (ny 2 h.id) /\ sm (pP h c0 c1 c2 c3 ++ more) 2 = oE (ny 2 h.num) /\ sm (pP h c0 c1 c2 c3 ++ more) 4 = oE (ny 2 c0) /\
  sm (pP h c0 c1 c2 c3 ++ more) 6 = oE (ny 2 c1) /\ sm (pP h c0 c1 c2 c3 ++ more) 8 = oE (ny 2 c2) /\ sm (pP h c0 c1 c2 c3 ++ more) 10 = oE (ny 2 c3) := by
 have l := np 2;unfold pP;refine ⟨?_, ?_, ?_, ?_, ?_, ?_⟩
 ·have := wN [] (ny 2 h.id) (ny 2 h.num ++ ny 2 c0 ++ ny 2 c1 ++ ny 2 c2 ++ ny 2 c3 ++ more) 0 rfl (l _);exact lD
 ·have := wN (ny 2 h.id) (ny 2 h.num) (ny 2 c0 ++ ny 2 c1 ++ ny 2 c2 ++ ny 2 c3 ++ more) 2 (l _) (l _);exact lD
 ·have := wN (ny 2 h.id ++ ny 2 h.num) (ny 2 c0) (ny 2 c1 ++ ny 2 c2 ++ ny 2 c3 ++ more) 4 cC (l _);exact lD
 ·have := wN (ny 2 h.id ++ ny 2 h.num ++ ny 2 c0) (ny 2 c1) (ny 2 c2 ++ ny 2 c3 ++ more) 6 cC (l _);exact lD
 ·have := wN (ny 2 h.id ++ ny 2 h.num ++ ny 2 c0 ++ ny 2 c1) (ny 2 c2) (ny 2 c3 ++ more) 8 cC (l _);exact lD
 ·have := wN (ny 2 h.id ++ ny 2 h.num ++ ny 2 c0 ++ ny 2 c1 ++ ny 2 c2) (ny 2 c3) more 10 cC (l _);exact lD
theorem tQ (s y : List UInt8) (k : Nat) (n : Int) : qA (s ++ (ny k n ++ y)) k s.length = .ok (oE (ny k n), s.length + k) := by
 unfold qA;have hl := np k n;rw [if_neg (by simp only [List.length_append, hl]; omega)];have e : ((s ++ (ny k n ++ y)).take (s.length + k)).drop s.length = ny k n := by
  rw [<- List.append_assoc];have h1 : (s ++ ny k n).length = s.length + k := by simp [hl]
  rw [<- h1, List.take_left, List.drop_left]
 rw [e]
theorem TZ {q : Qn} (h : qE q = 0) : nH q.name = 0 /\ uc 65535 q.ty = true /\ uc 65535 q.cl = true := by
 unfold qE at h;by_cases h1 : nH q.name = 0
 ·
  rw [if_neg (by simp [h1])] at h;by_cases h2 : (uc 65535 q.ty && uc 65535 q.cl) = true
  ·rw [Bool.and_eq_true] at h2; exact ⟨h1, h2⟩
  ·rw [if_neg h2] at h; cases h
 ·exact mP
theorem yW (st : WS) (q : Qn) (y : List UInt8) (hT : pz st.1 st.2) (hq : qE q = 0) :
  qt ((pJ st q).1 ++ y) st.1.length = .ok (q, (pJ st q).1.length) /\ pz (pJ st q).1 (pJ st q).2 := by
 obtain ⟨hc, h1, h2⟩ := TZ hq;obtain ⟨s, T⟩ := st;obtain ⟨n, ty, cl⟩ := q;simp only at hT hc h1 h2 ⊢;obtain ⟨p1, p2, p3⟩ := s6 s T n hT hc;unfold pJ;simp only;generalize og T s.length n = A at *;have hA : (s ++ A).length = s.length + A.length := ag;have m0 : s ++ A ++ ny 2 ty ++ ny 2 cl ++ y = s ++ A ++ (ny 2 ty ++ (ny 2 cl ++ y)) := ag;have m1 : s ++ A ++ ny 2 ty ++ ny 2 cl ++ y = s ++ A ++ ny 2 ty ++ (ny 2 cl ++ y) := ag;have e0 : nameAt (s ++ A ++ ny 2 ty ++ ny 2 cl ++ y) s.length = .ok (n, s.length + A.length) := by rw [m0]; exact yH (p1.app _) ag hc
 have e1 : qA (s ++ A ++ ny 2 ty ++ ny 2 cl ++ y) 2 (s.length + A.length) = .ok (oE (ny 2 ty), s.length + A.length + 2) := by rw [m0, <- hA]; exact tQ _ _ 2 ty
 have hB : (s ++ A ++ ny 2 ty).length = s.length + A.length + 2 := iM;have e2 : qA (s ++ A ++ ny 2 ty ++ ny 2 cl ++ y) 2 (s.length + A.length + 2) = .ok (oE (ny 2 cl), s.length + A.length + 2 + 2) := by rw [m1, <- hB]; exact tQ _ _ 2 cl
 have hC : (s ++ A ++ ny 2 ty ++ ny 2 cl).length = s.length + A.length + 2 + 2 := iL;refine ⟨?_, (p2.app _).app _⟩;unfold qt;rw [e0];simp only;rw [e1];simp only;rw [e2];simp only;rw [r6 _ h1, r6 _ h2, hC]
theorem PU (m y : List UInt8) (a n : Nat) (ty cl : Int) (h : a + n <= m.length) : rJ (m ++ y) a n ty cl = rJ m a n ty cl := by
 unfold rJ;rw [List.take_append_of_le_length h]
theorem Fg (st : WS) (r : RR) (hT : pz st.1 st.2) (hc : nU r = 0) : pz (r8 st r) (ud st r) := by
 obtain ⟨p1, p2, p3⟩ := s6 st.1 st.2 r.name hT (Bb hc).nm;exact ((p2.app _).app _).app _
theorem PV (st : WS) (r : RR) (x : List UInt8) : ((r8 st r ++ ny 2 x.length).length : Int) = ((r8 st r).length : Int) + 2 := by
 rw [List.length_append, np]; simp
theorem Bc (st : WS) (r : RR) (hT : pz st.1 st.2) (hw : r.wf) (hc : nU r = 0) : pz (nP st r).1 (nP st r).2 := by
 have h1 := (Fg st r hT hc).app (ny 2 (sV st r).length);have h2 := (DU _ _ r hw hc h1).2;rw [PV] at h2;exact h2
theorem Na (st : WS) (r : RR) (y : List UInt8) (hT : pz st.1 st.2) (hw : r.wf) (hc : nU r = 0) (hl : (sV st r).length <= 65535) :
  recAt ((nP st r).1 ++ y) st.1.length = .ok (r, (nP st r).1.length) := by
 have ok := Bb hc;have h1 := (Fg st r hT hc).app (ny 2 (sV st r).length);have h2 := (DU _ _ r hw hc h1).1;rw [PV] at h2;change rJ (r8 st r ++ ny 2 (sV st r).length ++ sV st r) _ (sV st r).length _ _ = _ at h2;obtain ⟨p1, p2, p3⟩ := s6 st.1 st.2 r.name hT ok.nm;unfold nP;simp only;generalize sV st r = D at *;unfold r8 at *;generalize og st.2 st.1.length r.name = A at *;obtain ⟨s, T⟩ := st;simp only at hT h1 h2 p1 p2 p3 ⊢;have hA : (s ++ A).length = s.length + A.length := ag;have hB : (s ++ A ++ ny 2 r.ty).length = s.length + A.length + 2 := iM;have hC : (s ++ A ++ ny 2 r.ty ++ ny 2 r.cl).length = s.length + A.length + 2 + 2 := iL;have hD : (s ++ A ++ ny 2 r.ty ++ ny 2 r.cl ++ ny 4 r.ttl).length = s.length + A.length + 2 + 2 + 4 := by rw [List.length_append, np, hC]
 have hE : (s ++ A ++ ny 2 r.ty ++ ny 2 r.cl ++ ny 4 r.ttl ++ ny 2 D.length).length = s.length + A.length + 2 + 2 + 4 + 2 := by rw [List.length_append, np, hD]
 obtain ⟨M, hM⟩ : ∃ M, s ++ A ++ ny 2 r.ty ++ ny 2 r.cl ++ ny 4 r.ttl ++ ny 2 D.length ++ D ++ y = M := eE;have m0 : M = s ++ A ++ (ny 2 r.ty ++ (ny 2 r.cl ++ ny 4 r.ttl ++ ny 2 D.length ++ D ++ y)) := ie;have m1 : M = s ++ A ++ ny 2 r.ty ++ (ny 2 r.cl ++ (ny 4 r.ttl ++ ny 2 D.length ++ D ++ y)) := ie;have m2 : M = s ++ A ++ ny 2 r.ty ++ ny 2 r.cl ++ (ny 4 r.ttl ++ (ny 2 D.length ++ D ++ y)) := ie;have m3 : M = s ++ A ++ ny 2 r.ty ++ ny 2 r.cl ++ ny 4 r.ttl ++ (ny 2 D.length ++ (D ++ y)) := ie;have hMl : M.length = s.length + A.length + 2 + 2 + 4 + 2 + D.length + y.length := by rw [<- hM, List.length_append, List.length_append, hE]
 have e0 : nameAt M s.length = .ok (r.name, s.length + A.length) := by rw [m0]; exact yH (p1.app _) ag ok.nm
 have e1 : qA M 2 (s.length + A.length) = .ok (oE (ny 2 r.ty), s.length + A.length + 2) := by rw [m0, <- hA]; exact tQ _ _ 2 _
 have e2 : qA M 2 (s.length + A.length + 2) = .ok (oE (ny 2 r.cl), s.length + A.length + 2 + 2) := by rw [m1, <- hB]; exact tQ _ _ 2 _
 have e3 : qA M 4 (s.length + A.length + 2 + 2) = .ok (oE (ny 4 r.ttl), s.length + A.length + 2 + 2 + 4) := by rw [m2, <- hC]; exact tQ _ _ 4 _
 have e4 : qA M 2 (s.length + A.length + 2 + 2 + 4) = .ok (oE (ny 2 D.length), s.length + A.length + 2 + 2 + 4 + 2) := by rw [m3, <- hD]; exact tQ _ _ 2 _
 have hsz : oE (ny 2 D.length) = D.length := by have := r6 (D.length : Int) (by simp [uc]; omega);omega
 have e5 : rJ M (s.length + A.length + 2 + 2 + 4 + 2) D.length r.ty r.cl = .ok (KW r) := by rw [<- hM, PU _ _ _ _ _ _ (by rw [List.length_append, hE]; omega), <- hE]; exact h2
 rw [hM];unfold recAt;rw [e0];simp only;rw [e1];simp only;rw [e2];simp only;rw [e3];simp only;rw [e4, hsz];simp only;rw [if_neg ak, r6 _ ok.ty, r6 _ ok.cl, e5];simp only;rw [tP _ ok.ttl];simp only [KW];rw [List.length_append, hE]
theorem PW (st : WS) (r : RR) : (sV st r).length <= (nP st r).1.length := by simp [nP]; omega
theorem vQ {α : Type} (f : WS -> α -> WS) (g : List UInt8 -> Nat -> Except Int (α × Nat)) (ok : α -> Prop) (hpre : ∀ st x, ∃ z, (f st x).1 = st.1 ++ z)
  (hstep : ∀ st x y, pz st.1 st.2 -> ok x -> (f st x).1.length <= 65535 -> g ((f st x).1 ++ y) st.1.length = .ok (x, (f st x).1.length) /\ pz (f st x).1 (f st x).2) :
  ∀ (l : List α) (st : WS) (y : List UInt8), pz st.1 st.2 -> (∀ x ∈ l, ok x) -> (l.foldl f st).1.length <= 65535 ->
   (∃ z, (l.foldl f st).1 = st.1 ++ z) /\ oD (g ((l.foldl f st).1 ++ y)) l.length st.1.length = .ok (l, (l.foldl f st).1.length) /\ pz (l.foldl f st).1 (l.foldl f st).2
 | [], st, y, hT, _, _ => ⟨⟨[], ag⟩, rfl, hT⟩
 | x :: l, st, y, hT, hok, hl => by
  simp only [List.foldl_cons] at hl ⊢;obtain ⟨z0, hz0⟩ := hpre st x;have fpre : ∀ (l : List α) (st : WS), ∃ z, (l.foldl f st).1 = st.1 ++ z := by
   intro l;induction l with
   | nil => intro st; exact ⟨[], ag⟩
   | cons a l ih => intro st;obtain ⟨z1, h1⟩ := ih (f st a);obtain ⟨z2, h2⟩ := hpre st a;exact ⟨z2 ++ z1, by rw [List.foldl_cons, h1, h2, List.append_assoc]⟩
  obtain ⟨z1, hz1⟩ := fpre l (f st x);have hl1 : (f st x).1.length <= 65535 := by rw [hz1, List.length_append] at hl; omega
  obtain ⟨s1, s2⟩ := hstep st x (z1 ++ y) hT (hok x (List.mem_cons_self ..)) hl1;obtain ⟨⟨z, i1⟩, i2, i3⟩ := vQ f g ok hpre hstep l (f st x) y s2 (fun a ha => hok a (List.mem_cons_of_mem _ ha)) hl;refine ⟨⟨z0 ++ z1, by rw [hz1, hz0, List.append_assoc]⟩, ?_, i3⟩;rw [List.length_cons];unfold oD;rw [<- List.append_assoc, <- hz1] at s1;rw [s1];simp only;rw [i2]
theorem PX (st : WS) (q : Qn) : ∃ z, (pJ st q).1 = st.1 ++ z := ⟨og st.2 st.1.length q.name ++ ny 2 q.ty ++ ny 2 q.cl, by simp [pJ]⟩
theorem xp (st : WS) (r : RR) : ∃ z, (nP st r).1 = st.1 ++ z := ⟨_, by unfold nP r8; simp only [List.append_assoc]; rfl⟩
theorem Hw {m : oh} (h : pR m = 0) : ∀ q ∈ m.qs, qE q = 0 := by
 unfold pR at h;cases hk : m.hd.ok with
 | false => rw [if_pos hk] at h; cases h
 | true =>
  rw [if_neg (by simp [hk])] at h;by_cases h1 : 65535 < m.qs.length \/ 65535 < m.an.length \/ 65535 < m.au.length \/ 65535 < m.ex.length
  ·rw [if_pos h1] at h; cases h
  ·
   rw [if_neg h1] at h;by_cases h2 : qO (m.qs.map qE) = 0
   ·exact fun q hq => wE h2 _ (List.mem_map_of_mem hq)
   ·rw [if_pos h2] at h; exact absurd h h2
theorem DX (m : oh) (pack : Bool) : pz (qv m pack).1 (qv m pack).2 := by
  intro T e;cases pack with
  | false => cases e
  | true => obtain rfl : [] = T := by simpa [qv] using e
            exact DT _
theorem Fi {m : oh} {r : RR} : r ∈ m.y7 ↔ r ∈ m.an \/ r ∈ m.au \/ r ∈ m.ex := by simp [oh.y7, or_assoc]
theorem Hx (m : oh) (pack : Bool) (hw : ∀ r ∈ m.y7, r.wf) (hc : pR m = 0) (hl : (vA m pack).1.length <= 65535) : qR (vA m pack).1 = .ok m := by
 have ok := Ju hc;have okq := Hw hc;rw [KH] at hl ⊢;have HQ : ∀ st x y, pz st.1 st.2 -> qE x = 0 -> (pJ st x).1.length <= 65535 -> qt ((pJ st x).1 ++ y) st.1.length = .ok (x, (pJ st x).1.length) /\ pz (pJ st x).1 (pJ st x).2 := fun st x y h1 h2 _ => yW st x y h1 h2
 have HR : ∀ st x y, pz st.1 st.2 -> (x.wf /\ nU x = 0) -> (nP st x).1.length <= 65535 -> recAt ((nP st x).1 ++ y) st.1.length = .ok (x, (nP st x).1.length) /\ pz (nP st x).1 (nP st x).2 := fun st x y h1 h2 h3 => ⟨Na st x y h1 h2.1 h2.2 (Nat.le_trans (PW st x) h3), Bc st x h1 h2.1 h2.2⟩
 have okR : ∀ l : List RR, (∀ r ∈ l, r ∈ m.y7) -> ∀ r ∈ l, r.wf /\ nU r = 0 := fun l h r hr => ⟨hw r (h r hr), ok.r r (h r hr)⟩
 have oka := okR m.an (fun r h => Fi.2 (.inl h));have oku := okR m.au (fun r h => Fi.2 (.inr (.inl h)));have oke := okR m.ex (fun r h => Fi.2 (.inr (.inr h)));have T0 := DX m pack;have L0 := Dz m pack;have P0 : (qv m pack).1 = pP m.hd m.qs.length m.an.length m.au.length m.ex.length := rfl;generalize qv m pack = s0 at *;obtain ⟨s1, h1⟩ : ∃ s, m.qs.foldl pJ s0 = s := eE;rw [h1] at hl ⊢;obtain ⟨s2, h2⟩ : ∃ s, m.an.foldl nP s1 = s := eE;rw [h2] at hl ⊢;obtain ⟨s3, h3⟩ : ∃ s, m.au.foldl nP s2 = s := eE;rw [h3] at hl ⊢;obtain ⟨s4, h4⟩ : ∃ s, m.ex.foldl nP s3 = s := eE;rw [h4] at hl ⊢;have l4 := sJ m.ex s3;have l3 := sJ m.au s2;have l2 := sJ m.an s1;have l1 := Dx m.qs s0;rw [h4] at l4;rw [h3] at l3;rw [h2] at l2;rw [h1] at l1;have A1 := fun y => vQ pJ qt (fun q => qE q = 0) PX HQ m.qs s0 y T0 okq (by rw [h1]; omega)
 simp only [h1] at A1;have A2 := fun y => vQ nP recAt (fun r => r.wf /\ nU r = 0) xp HR m.an s1 y (A1 []).2.2 oka (by rw [h2]; omega)
 simp only [h2] at A2;have A3 := fun y => vQ nP recAt (fun r => r.wf /\ nU r = 0) xp HR m.au s2 y (A2 []).2.2 oku (by rw [h3]; omega)
 simp only [h3] at A3;have A4 := fun y => vQ nP recAt (fun r => r.wf /\ nU r = 0) xp HR m.ex s3 y (A3 []).2.2 oke (by rw [h4]; omega)
 simp only [h4] at A4;obtain ⟨z4, e4⟩ := (A4 []).1;obtain ⟨z3, e3⟩ := (A3 []).1;obtain ⟨z2, e2⟩ := (A2 []).1;obtain ⟨z1, e1⟩ := (A1 []).1;have B4 := (A4 []).2.1;rw [List.append_nil] at B4;have B3 := (A3 z4).2.1;rw [<- e4] at B3;have B2 := (A2 (z3 ++ z4)).2.1;rw [<- List.append_assoc, <- e3, <- e4] at B2;have B1 := (A1 (z2 ++ (z3 ++ z4))).2.1;rw [<- List.append_assoc, <- List.append_assoc, <- e2, <- e3, <- e4] at B1;have M : s4.1 = pP m.hd m.qs.length m.an.length m.au.length m.ex.length ++ (z1 ++ z2 ++ z3 ++ z4) := by rw [e4, e3, e2, e1, P0]; simp
 obtain ⟨a0, a2, a4, a6, a8, a10⟩ := SC m.hd m.qs.length m.an.length m.au.length m.ex.length (z1 ++ z2 ++ z3 ++ z4);rw [<- M] at a0 a2 a4 a6 a8 a10;have n2 : ∀ k : Nat, k <= 65535 -> oE (ny 2 (k : Int)) = k := fun k hk => by have := PR (k : Int) ⟨ak, ak⟩; omega
 unfold qR;rw [if_neg ak, if_neg ak, a0, a2, a4, a6, a8, a10, n2 _ ok.lq, n2 _ ok.la, n2 _ ok.lu, n2 _ ok.le, PS _ ok.hd, <- L0, B1];simp only;rw [B2];simp only;rw [B3];simp only;rw [B4];simp only;rw [if_neg (Nat.lt_irrefl _)]
theorem vR (x : List UInt8) (T : Option uE) (n : List (List UInt8)) (hT : pz x T) (b : Int) (hc : nH n = 0) : (og T x.length n).length <= (og none b n).length := by
 have h1 := (s6 x T n hT hc).2.2;have h2 := (Ff x n hc).1;show _ <= (rR n).length;omega
theorem PY (s : List UInt8) (T : Option uE) (r : RR) (hc : nU r = 0) (hT : pz s T) (b : Int) : (sk T s.length r).length <= (sk none b r).length := by
 have hE := (Bb hc).has;unfold tG at hE;unfold sk;split
 ·exact Nat.le_refl _
 rename_i k1;rw [if_neg k1] at hE;split
 ·exact Nat.le_refl _
 rename_i k2;rw [if_neg k2] at hE;split
 ·rename_i k3;rw [if_pos k3] at hE;exact vR s T r.tg hT b hE
 rename_i k3;rw [if_neg k3] at hE;split
 ·exact Nat.le_refl _
 rename_i k4;rw [if_neg k4] at hE;split
 ·
  rename_i k5;rw [if_pos k5] at hE;by_cases e1 : nH r.tg = 0
  ·
   rw [if_neg (by simp [e1])] at hE;by_cases e2 : nH r.ml = 0
   ·obtain ⟨p1, p2, p3⟩ := s6 s T r.tg hT e1;have h1 := vR s T r.tg hT b e1;have hat : ((s.length : Int) + ((og T s.length r.tg).length : Int)) = (((s ++ og T s.length r.tg).length : Nat) : Int) := ag;rw [hat];have h2 := vR _ _ r.ml p2 (b + ((og none b r.tg).length : Int)) e2;simp only [List.length_append, o8, Option.map_none] at h2 ⊢;omega
   ·rw [if_pos e2] at hE; exact absurd hE e2
  ·rw [if_pos e1] at hE; exact absurd hE e1
 ·exact Nat.le_refl _
theorem Hy : ∀ (l : List Qn) (st st' : WS), (∀ q ∈ l, qE q = 0) -> pz st.1 st.2 -> st'.2 = none -> st.1.length <= st'.1.length -> pz (l.foldl pJ st).1 (l.foldl pJ st).2 /\ (l.foldl pJ st').2 = none /\ (l.foldl pJ st).1.length <= (l.foldl pJ st').1.length
 | [], st, st', _, h1, h2, h3 => ⟨h1, h2, h3⟩
 | q :: l, st, st', hq, h1, h2, h3 => by
  rw [List.foldl_cons, List.foldl_cons];have q0 := hq q (List.mem_cons_self ..);refine Hy l (pJ st q) (pJ st' q) (fun a ha => hq a (List.mem_cons_of_mem _ ha)) (yW st q [] h1 q0).2 (by simp [pJ, h2, o8]) ?_;have := vR st.1 st.2 q.name h1 (st'.1.length : Int) (TZ q0).1;unfold pJ;simp only [List.length_append, np, h2];omega
theorem Hz : ∀ (l : List RR) (st st' : WS), (∀ r ∈ l, r.wf /\ nU r = 0) -> pz st.1 st.2 -> st'.2 = none -> st.1.length <= st'.1.length -> pz (l.foldl nP st).1 (l.foldl nP st).2 /\ (l.foldl nP st').2 = none /\ (l.foldl nP st).1.length <= (l.foldl nP st').1.length
 | [], st, st', _, h1, h2, h3 => ⟨h1, h2, h3⟩
 | r :: l, st, st', hr, h1, h2, h3 => by
  rw [List.foldl_cons, List.foldl_cons];obtain ⟨r0, r1⟩ := hr r (List.mem_cons_self ..);have t2 : ud st' r = none := by simp [ud, h2, o8]
  have tt : ∀ b : Int, wW none b r = none := fun b => by unfold wW; split <;> (try split) <;> simp [o8]
  refine Hz l (nP st r) (nP st' r) (fun a ha => hr a (List.mem_cons_of_mem _ ha)) (Bc st r h1 r0 r1) (by show wW (ud st' r) _ r = none; rw [t2]; exact tt _) ?_;have a1 := vR st.1 st.2 r.name h1 (st'.1.length : Int) (Bb r1).nm;have h4 := (Fg st r h1 r1).app (ny 2 (sV st r).length);have a2 := PY _ _ r r1 h4 (((r8 st' r).length : Int) + 2);rw [PV] at a2;have a2' : (sV st r).length <= (sV st' r).length := by unfold sV; rw [t2]; exact a2
  have a3 : (r8 st r).length <= (r8 st' r).length := by unfold r8; simp only [List.length_append, np, h2]; omega
  unfold nP;simp only [List.length_append, np];omega
theorem SG (m : oh) (hw : ∀ r ∈ m.y7, r.wf) (hc : pR m = 0) : (vA m true).1.length <= (vA m false).1.length := by
 have ok := Ju hc;obtain ⟨q1, q2, q3⟩ := Hy m.qs (qv m true) (qv m false) (Hw hc) (DX m true) rfl (Nat.le_refl _);exact (Hz m.y7 _ _ (fun r hr => ⟨hw r hr, ok.r r hr⟩) q1 q2 q3).2.2
end Go.Proofs.YthnbcmlnpdabhaaGreat
