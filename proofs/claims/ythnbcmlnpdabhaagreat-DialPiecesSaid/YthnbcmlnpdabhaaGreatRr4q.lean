/-
  Layer 14, the reference: Decode.
-/
import Derived.Test.YthnbcmlnpdabhaaGreatRr3q
import Derived.Test.YthnbcmlnpdabhaaGreatHJq
namespace Go.Proofs.YthnbcmlnpdabhaaGreat
open _root_.Go.Proofs.Tryz
open Go.RowKit
set_option maxRecDepth 100000
set_option linter.unusedVariables false
set_option linter.unusedSimpArgs false
theorem whole14r {w : World} {g n : Nat} {L M : List Value} (h : Blk w g 50 (L ++ M.drop n)) (hM : M.length ≤ n) : Blk w g 50 L := by
 rwa [List.drop_of_length_le hM, List.append_nil] at h
theorem refdecode_short (m : List UInt8) (w : World) (hm : m.length < 12) : Calls prog 78 #[.string (bs m)] w (DecRet (.error 1) w) := by
 have hm' : ¬ (65535 : Int) < m.length := by omega
 have H := Hh (fun w => refGet_short m w hm)
 unfold Hd.agg Hd.zero cnts at H
 clear hm
 have C2 := Blk.new w 50 msgZ
 have CB : Below w.heap.size w (w.alloc (.cells msgZ.toArray 50)) := (Below.refl _ _).alloc (Nat.le_refl _) _
 go_enter func78, ntmps78
 go_wp2_with fail
 refine (H.out _).mono ?_
 rintro _ w1 ⟨rfl, b1⟩
 have B2 := C2.below b1 C2.lt
 have HB := below_then CB CB.size b1
 have kk : ∀ o1 o2, Below w1.heap.size w1 ((w1.alloc o1).alloc o2) := fun o1 o2 => ((Below.refl _ _).alloc (Nat.le_refl _) _).alloc (by simp) _
 clear b1 C2 CB H
 go_wp2_with (refine at_op (.store 50 (.tmp 2) (.tmp 25)) rfl ?_; go_must (refine wpList_stB rfl _ _ _ rfl w.heap.size 0 rfl msgZ rfl (B2.below (kk _ _) B2.lt) (by decide) msgInfo msgZ_one ?_))
 intro w2 B3 g2 _
 have HB2 := below_grown (below_then HB HB.size (kk _ _)) g2 (by have := HB.size; simp; omega) (Nat.le_refl _)
 clear g2 HB kk B2
 go_wp2_with fail
 refine ret_cell_tmp rfl w.heap.size rfl B3 _ underlying50 rfl msgInfo rfl (.int .i64 1) rfl ?_
 exact ⟨by decide, rfl, HB2⟩
theorem refdecode_long (m : List UInt8) (w : World) (hm : 65535 < m.length) : Calls prog 78 #[.string (bs m)] w (DecRet (.error 3) w) := by
 have hm' : (65535 : Int) < m.length := by omega
 have C2 := Blk.new w 50 msgZ
 have CB : Below w.heap.size w (w.alloc (.cells msgZ.toArray 50)) := (Below.refl _ _).alloc (Nat.le_refl _) _
 clear hm
 go_enter func78, ntmps78
 go_wp2_with (refine at_op (.store 50 (.tmp 2) (.tmp 16)) rfl ?_; go_must (refine wpList_stB rfl _ _ _ rfl w.heap.size 0 rfl msgZ rfl C2 (by decide) msgInfo msgZ_one ?_))
 intro w2 B3 g2 _
 have HB2 := below_grown CB g2 CB.size (Nat.le_refl _)
 clear g2 CB C2
 go_wp2_with fail
 refine ret_cell_tmp rfl w.heap.size rfl B3 _ underlying50 rfl msgInfo rfl (.int .i64 3) rfl ?_
 exact ⟨by decide, rfl, HB2⟩
structure QuS (m : List UInt8) (O : Except Int (List Qn × Nat)) (acc : List Qn) (c : Nat) (p y : Int) : Prop where
 ok : y = 0 → ∃ j : Nat, p = j ∧ j ≤ m.length ∧ behindL acc (manyAt (questAt m) c j) = O
 bad : y ≠ 0 → O = .error y
theorem quest3 {m : List UInt8} {j : Nat} {nm : List (List UInt8)} {p1 y1 : Int} {ty : Nat} {p2 y2 : Int} {cl : Nat} {p3 y3 : Int}
  (s1 : Step (nameAt m j) m.length nm p1 y1) (s2 : Next 0 (numAt m 2) m.length p1 y1 ty p2 y2) (s3 : Next 0 (numAt m 2) m.length p2 y2 cl p3 y3) :
  (y3 ≠ 0 ∧ questAt m j = .error y3) ∨ (y3 = 0 ∧ ∃ q : Nat, p3 = q ∧ q ≤ m.length ∧ questAt m j = .ok (⟨nm, ty, cl⟩, q)) := by
 have a1 : y1 = 0 → ∃ k : Nat, p1 = k ∧ k ≤ m.length := fun h => by obtain ⟨q, _, h2, h3⟩ := s1.ok0 h; exact ⟨q, h2, h3⟩
 have a2 := s2.pos a1
 by_cases h3 : y3 = 0
 ·
  right
  obtain ⟨e2, k2, q3, i2, f3, i3', l3⟩ := s3.ok0 h3 a2
  obtain ⟨e1, k1, q2, i1, f2, i2', l2⟩ := s2.ok0 e2 a1
  obtain ⟨q1, f1, i1', l1⟩ := s1.ok0 e1
  obtain rfl : k1 = q1 := by omega
  obtain rfl : k2 = q2 := by omega
  refine ⟨h3, q3, i3', l3, ?_⟩
  unfold questAt
  rw [f1]
  simp only
  rw [f2]
  simp only
  rw [f3]
 ·
  left
  refine ⟨h3, ?_⟩
  rcases s3.err h3 a2 with ⟨e2, rfl⟩ | ⟨e2, k2, i2, f3⟩
  ·
   rcases s2.err e2 a1 with ⟨e1, rfl⟩ | ⟨e1, k1, i1, f2⟩
   ·
    unfold questAt; rw [s1.err e1]
   ·
    obtain ⟨q1, f1, i1', l1⟩ := s1.ok0 e1
    obtain rfl : k1 = q1 := by omega
    unfold questAt; rw [f1]; simp only; rw [f2]
  ·
   obtain ⟨e1, k1, q2, i1, f2, i2', l2⟩ := s2.ok0 e2 a1
   obtain ⟨q1, f1, i1', l1⟩ := s1.ok0 e1
   obtain rfl : k1 = q1 := by omega
   obtain rfl : k2 = q2 := by omega
   unfold questAt; rw [f1]; simp only; rw [f2]; simp only; rw [f3]
theorem secS_of {m : List UInt8} {α : Type} {o : Except Int (α × Nat)} {x : α} {p y : Int} (h : Step o m.length x p y) (n : Nat) : ∃ O, SecS m O [] n p y ∧ (y = 0 → ∃ j : Nat, p = j ∧ O = manyAt (recAt m) n j) ∧ (y ≠ 0 → O = .error y) := by
 by_cases hy : y = 0
 ·
  obtain ⟨q, h1, h2, h3⟩ := h.ok0 hy
  exact ⟨manyAt (recAt m) n q, ⟨fun _ => ⟨q, h2, h3, behind_nil _⟩, fun h => absurd hy h⟩, fun _ => ⟨q, h2, rfl⟩, fun h => absurd hy h⟩
 ·
  exact ⟨.error y, ⟨fun h => absurd h hy, fun _ => rfl⟩, fun h => absurd h hy, fun _ => rfl⟩
theorem dec_chain {m : List UInt8} {hd : Hd} {n1 n2 n3 : Nat} {OQ : Except Int (List Qn × Nat)} {O1 O2 O3 : Except Int (List RR × Nat)} {q : List Qn} {a u x : List RR} {p0 y0 p1 y1 p2 y2 p3 y3 : Int}
  (S0 : Step OQ m.length q p0 y0) (k1 : y0 = 0 → ∃ j : Nat, p0 = j ∧ O1 = manyAt (recAt m) n1 j) (e1 : y0 ≠ 0 → O1 = .error y0)
  (S1 : Step O1 m.length a p1 y1) (k2 : y1 = 0 → ∃ j : Nat, p1 = j ∧ O2 = manyAt (recAt m) n2 j) (e2 : y1 ≠ 0 → O2 = .error y1)
  (S2 : Step O2 m.length u p2 y2) (k3 : y2 = 0 → ∃ j : Nat, p2 = j ∧ O3 = manyAt (recAt m) n3 j) (e3 : y2 ≠ 0 → O3 = .error y2)
  (S3 : Step O3 m.length x p3 y3) : (y3 ≠ 0 ∧ decR0 m hd n1 n2 n3 OQ = .error y3) ∨ (y3 = 0 ∧ ∃ j : Nat, p3 = j ∧ j ≤ m.length ∧ decR0 m hd n1 n2 n3 OQ = if j < m.length then .error 2 else .ok ⟨hd, q, a, u, x⟩) := by
 by_cases h0 : y0 = 0
 case neg =>
  have a0 := S0.err h0
  have b1 := e1 h0
  rw [b1] at S1
  obtain ⟨rfl, h1⟩ := S1
  have b2 := e2 h0
  rw [b2] at S2
  obtain ⟨rfl, h2⟩ := S2
  have b3 := e3 h0
  rw [b3] at S3
  obtain ⟨rfl, h3⟩ := S3
  exact .inl ⟨h0, by rw [a0]; rfl⟩
 obtain ⟨j0, a0, i0, l0⟩ := S0.ok0 h0
 obtain ⟨j0', i0', b1⟩ := k1 h0
 obtain rfl : j0 = j0' := by omega
 have r0 : decR0 m hd n1 n2 n3 OQ = decR1 m hd q n1 n2 n3 j0 := by rw [a0]; rfl
 by_cases h1 : y1 = 0
 case neg =>
  have a1 := S1.err h1
  have b2 := e2 h1
  rw [b2] at S2
  obtain ⟨rfl, h2⟩ := S2
  have b3 := e3 h1
  rw [b3] at S3
  obtain ⟨rfl, h3⟩ := S3
  exact .inl ⟨h1, by rw [r0]; exact decR1_bad (b1.symm.trans a1)⟩
 obtain ⟨j1, a1, i1, l1⟩ := S1.ok0 h1
 obtain ⟨j1', i1', b2⟩ := k2 h1
 obtain rfl : j1 = j1' := by omega
 have r1 := r0.trans (decR1_ok (hd := hd) (q := q) (n2 := n2) (n3 := n3) (b1.symm.trans a1))
 by_cases h2 : y2 = 0
 case neg =>
  have a2 := S2.err h2
  have b3 := e3 h2
  rw [b3] at S3
  obtain ⟨rfl, h3⟩ := S3
  exact .inl ⟨h2, by rw [r1]; exact decR2_bad (b2.symm.trans a2)⟩
 obtain ⟨j2, a2, i2, l2⟩ := S2.ok0 h2
 obtain ⟨j2', i2', b3⟩ := k3 h2
 obtain rfl : j2 = j2' := by omega
 have r2 := r1.trans (decR2_ok (hd := hd) (q := q) (a := a) (n3 := n3) (b2.symm.trans a2))
 by_cases h3 : y3 = 0
 case neg => exact .inl ⟨h3, by rw [r2]; exact decR3_bad (b3.symm.trans (S3.err h3))⟩
 obtain ⟨j3, a3, i3, l3⟩ := S3.ok0 h3
 exact .inr ⟨h3, j3, i3, l3, by rw [r2]; exact decR3_ok (b3.symm.trans a3)⟩
theorem wpList_appQ (w : World) {ops : Array Oper} {rest : List Oper} {o : Oper} {a : Act} {Q : Exit → Act → World → Prop} (hgd : o.guard = none) (sl x : Operand)
  (ho : o.op = .call { callee := .builtin .append, args := #[sl, x], argTypes := #[47, 47] })
  (B : Nat) (v : Value) (n : Nat) (xs : List Value) (hs : a.eval sl = v) (hown : w.ownsRow B 28 3 v n xs) (hB : B ≤ w.heap.size) (b c : Nat) (hx : a.eval x = .slice (some ⟨b, 0, none⟩) 1 c) (news : List Value) (hr : w.rangeAt b 0 news) (hl : news.length = 3) (h1 : ∀ u ∈ news, u.oneCell' = true) (hb : n ≤ 300000)
  (h : ∀ v' w', w'.ownsRow B 28 3 v' (n + 1) (xs ++ news) → w.grownBy w' v.ownBlock → wpList prog ops Q rest (a.put o.dst v') w') : wpList prog ops Q (o :: rest) a w := by
 refine wpList_plain hgd fun K hK => ?_
 obtain ⟨v', w', hr', h2, h3⟩ := run_appQ w o.type B v n xs hown hB b c news hr hl h1 hb
 unfold Oper.wp execOp
 simp only [ho, resolve, invoke, builtin, Sem.run_bind, Sem.run_pure, Result.andThen_ok, List.map_toArray, List.map_cons, List.map_nil, hs, hx, hr']
 exact hK _ _ (h v' w' h2 h3)
set_option maxHeartbeats 8000000 in
theorem refdecode_main (m : List UInt8) (w : World) (h12 : 12 ≤ m.length) (hl : m.length ≤ 65535) : Calls prog 78 #[.string (bs m)] w (DecRet (decM m) w) := by
 have hm' : ¬ (65535 : Int) < m.length := by omega
 have H := Hh (fun w => refGet_long m w h12)
 have q0 := at2_lt m 4
 have q1 := at2_lt m 6
 have q2 := at2_lt m 8
 have q3 := at2_lt m 10
 obtain ⟨O, hO⟩ : ∃ O, Hid (decM m = O) := ⟨_, Hh rfl⟩
 have DE : Hid (O = decR0 m (hdOf (at2 m 0) (at2 m 2)) (at2 m 6) (at2 m 8) (at2 m 10) (manyAt (questAt m) (at2 m 4) 12)) := Hh (by rw [← hO.out]; exact decM_in h12 hl)
 have NE : Hid (∀ x, O = .error x → x ≠ 0) := Hh (fun x h => decM_ne (hO.out.trans h))
 rw [hO.out]
 generalize hdOf (at2 m 0) (at2 m 2) = hd at *
 generalize at2 m 4 = n0 at *
 generalize at2 m 6 = n1 at *
 generalize at2 m 8 = n2 at *
 generalize at2 m 10 = n3 at *
 have hvl : hd.vals.length = 10 := rfl
 clear hO
 unfold cnts Hd.agg at H
 have C2 := Blk.new w 50 msgZ
 have CB : Below w.heap.size w (w.alloc (.cells msgZ.toArray 50)) := (Below.refl _ _).alloc (Nat.le_refl _) _
 go_enter func78, ntmps78
 go_wp2_with fail
 refine (H.out _).mono ?_
 rintro _ w1 ⟨rfl, b1⟩
 have B2' := C2.below b1 C2.lt
 have HB' := below_then CB CB.size b1
 have hsz : w.heap.size < w1.heap.size := B2'.lt
 have kk : ∀ o1 o2 o3 o4, Below w1.heap.size w1 ((((w1.alloc o1).alloc o2).alloc o3).alloc o4) := fun o1 o2 o3 o4 => ((((Below.refl _ _).alloc (Nat.le_refl _) _).alloc (by simp) _).alloc (by simp; omega) _).alloc (by simp; omega) _
 clear b1 C2 CB H
 go_wp2_with (refine at_op (.store 50 (.tmp 8) (.tmp 31)) rfl ?_; go_must (refine wpList_stB rfl _ _ _ rfl (w1.heap.size + 1 + 1 + 1) 0 rfl (msgC hd nilS nilS nilS nilS) rfl (Blk.new' _ 50 msgZ _ (by simp)) (by rw [msgZ_len, msgC_len]; omega) (by rw [msgC_len]; exact msgInfo) (msgC_one _ rfl rfl rfl rfl) ?_))
 intro w2 B8 g2 s2
 replace B8 := whole14r B8 (by have := msgZ_len; have := msgC_len hd nilS nilS nilS nilS; omega)
 have B2 := (B2'.below (kk _ _ _ _) B2'.lt).grown g2 (by simp; omega)
 have HB := below_grown (below_then HB' HB'.size (kk _ _ _ _)) g2 (by simp; omega) (by omega)
 have BC : Blk w2 (w1.heap.size + 1) 210 [.int .i64 n0, .int .i64 n1, .int .i64 n2, .int .i64 n3] := Blk.grown (((Blk.new' _ 210 [.int .i64 n0, .int .i64 n1, .int .i64 n2, .int .i64 n3] _ (by simp)).alloc _).alloc _) g2 (by simp)
 have R : RdX w2 (w1.heap.size + 1 + 1) m ((12 : Nat) : Int) 0 := Blk.grown ((Blk.new' _ 221 [.string (bs m), .int .i64 12, .int .i64 0] _ (by simp)).alloc _) g2 (by simp)
 have lgc : w.heap.size < w1.heap.size + 1 := by omega
 have lgr : w1.heap.size + 1 < w1.heap.size + 1 + 1 := by omega
 have lg8 : w1.heap.size + 1 + 1 < w1.heap.size + 1 + 1 + 1 := by omega
 have ok : QuS m (manyAt (questAt m) n0 12) [] (n0 - 0) ((12 : Nat) : Int) 0 := ⟨fun _ => ⟨12, rfl, h12, behind_nil _⟩, fun h => absurd rfl h⟩
 obtain ⟨OQ, hOQ⟩ : ∃ OQ, Hid (manyAt (questAt m) n0 12 = OQ) := ⟨_, Hh rfl⟩
 rw [hOQ.out] at DE ok
 have HO := Hh ok
 clear kk g2 s2 HB' B2' hsz hOQ ok
 generalize w1.heap.size + 1 + 1 + 1 = g8 at *
 generalize w1.heap.size + 1 + 1 = gr at *
 generalize w1.heap.size + 1 = gc at *
 go_wp2_with fail
 go_loopw [9] (fun iv wr => ∃ (k : Nat) (acc : List Qn) (p y : Int) (v : Value), k ≤ n0 ∧ iv = .int .i64 k ∧ Hid (acc.length = k) ∧ Blk wr g8 50 (msgC hd v nilS nilS nilS) ∧ QsOwn wr w.heap.size v acc ∧ RdX wr gr m p y ∧ Blk wr gc 210 [.int .i64 n0, .int .i64 n1, .int .i64 n2, .int .i64 n3] ∧ Blk wr w.heap.size 50 msgZ ∧ Below w.heap.size w wr ∧ Hid (QuS m OQ acc (n0 - k) p y)) (fun iv _ => n0 - (intOf iv).toNat)
 case atStart => exact ⟨0, [], (12 : Nat), 0, nilS, Nat.zero_le _, rfl, Hh rfl, B8, QsOwn.nil _ _, R, BC, B2, HB, HO⟩
 clear B8 R BC B2 HB HO
 obtain ⟨k, acc, p, y, v, hk, rfl, HAL, B8, oQ, R, BC, B2, HB, HO⟩ := hrel
 have hale : acc.length ≤ 65535 := by have := HAL.out; omega
 have cc := BC.cell_ 0 rfl
 have c2 := R.cell_ 2 rfl
 obtain ⟨A, c, hv⟩ := oQ.form
 subst hv
 by_cases hgo : k < n0 ∧ y = 0
 case pos =>
  obtain ⟨hlt, rfl⟩ := hgo
  have hlt' : (k : Int) < n0 := by omega
  obtain ⟨j, rfl, hj, hb⟩ := HO.out.ok rfl
  have HBh := Hh (show behindL acc (manyAt (questAt m) ((n0 - (k + 1)) + 1) j) = OQ by rw [show n0 - (k + 1) + 1 = n0 - k by omega]; exact hb)
  have NC := Hh (refname_any gr m j wr R hl)
  clear hb HO
  go_wp2_with fail
  refine NC.out.mono ?_
  rintro _ w3 ⟨v1, nm, p1, y1, rfl, N1, R1, g1, S1⟩
  have o1 := oQ.blk g1 R (by decide) (by decide)
  have M1 := B8.grown g1 (by simp; omega)
  have E1 := BC.grown g1 (by simp; omega)
  have F1 := B2.grown g1 (by simp; omega)
  have K1 := below_grown HB g1 HB.size (by omega)
  have a1 : y1 = 0 → ∃ k : Nat, p1 = k ∧ k ≤ m.length := fun h => by obtain ⟨q, _, h2, h3⟩ := S1.ok0 h; exact ⟨q, h2, h3⟩
  have A1 := Hh a1
  have T1 := Hh S1
  have NC2 := Hh (refnum_all gr m p1 y1 2 w3 R1 hl (.inl rfl) a1)
  clear NC oQ R B8 BC B2 HB g1 c2 cc a1 S1
  go_wp2_with fail
  refine NC2.out.mono ?_
  rintro _ w4 ⟨_, ty, p2, y2, rfl, rfl, R2, g2, S2⟩
  have o2 := o1.blk g2 R1 (by decide) (by decide)
  have M2 := M1.grown g2 (by simp; omega)
  have E2 := E1.grown g2 (by simp; omega)
  have F2 := F1.grown g2 (by simp; omega)
  have K2 := below_grown K1 g2 K1.size (by omega)
  have N2 := N1.stays (Stays.blk g2 R1 (by decide))
  have a2 := Next.pos S2 A1.out
  have T2 := Hh (show Next 0 (numAt m 2) m.length p1 y1 ty p2 y2 from S2)
  have NC3 := Hh (refnum_all gr m p2 y2 2 w4 R2 hl (.inl rfl) a2)
  have A2 := Hh a2
  clear NC2 o1 R1 M1 E1 F1 K1 g2 N1 a2 S2
  go_wp2_with fail
  refine NC3.out.mono ?_
  rintro _ w5 ⟨_, cl, p3, y3, rfl, rfl, R3, g3, S3⟩
  have o3 := o2.blk g3 R2 (by decide) (by decide)
  have M3 := M2.grown g3 (by simp; omega)
  have E3 := E2.grown g3 (by simp; omega)
  have F3 := F2.grown g3 (by simp; omega)
  have K3 := below_grown K2 g3 K2.size (by omega)
  have N3 := N2.stays (Stays.blk g3 R2 (by decide))
  have T3 := Hh (show Next 0 (numAt m 2) m.length p2 y2 cl p3 y3 from S3)
  have ZS : Hid (QuS m OQ (acc ++ [⟨nm, ty, cl⟩]) (n0 - (k + 1)) p3 y3) := Hh (by
   rcases quest3 T1.out T2.out T3.out with ⟨h3, hE⟩ | ⟨h3, q, hq, hql, hE⟩
   ·
    exact ⟨fun h => absurd h h3, fun _ => HBh.out.symm.trans (many_fail hE)⟩
   ·
    exact ⟨fun _ => ⟨q, hq, hql, by rw [← many_step hE]; exact HBh.out⟩, fun h => absurd h3 h⟩)
  obtain ⟨An, cn, hvn, -⟩ := N3.form
  subst hvn
  clear NC3 o2 R2 M2 E2 F2 K2 g3 N2 S3 T1 T2 T3 A1 A2 HBh
  have kn : Below w5.heap.size w5 (w5.alloc (.cells #[.slice An nm.length cn, .int .i64 (ty : Int), .int .i64 (cl : Int)] 28)) := (Below.refl _ _).alloc (Nat.le_refl _) _
  have oq : Qown (w5.alloc (.cells #[.slice An nm.length cn, .int .i64 (ty : Int), .int .i64 (cl : Int)] 28)) [.slice An nm.length cn, .int .i64 (ty : Int), .int .i64 (cl : Int)] ⟨nm, ty, cl⟩ := ⟨_, rfl, N3.stays (Stays.below kn)⟩
  obtain ⟨css, ow, hE⟩ := o3
  have ow2 := own_below ow kn
  have Bn := Blk.new w5 28 [.slice An nm.length cn, .int .i64 (ty : Int), .int .i64 (cl : Int)]
  have hrg : (w5.alloc (.cells #[.slice An nm.length cn, .int .i64 (ty : Int), .int .i64 (cl : Int)] 28)).rangeAt w5.heap.size 0 [.slice An nm.length cn, .int .i64 (ty : Int), .int .i64 (cl : Int)] := Bn.range 0 3 (by simp)
  replace hE := hE.mono (fun _ _ x => x.stays (Stays.below kn))
  have K4 := below_then K3 K3.size kn
  have R4 := Blk.below R3 kn (Blk.lt R3)
  have M4 := M3.below kn M3.lt
  have E4 := E3.below kn E3.lt
  have F4 := F3.below kn F3.lt
  have m10 := M3.cell_ 10 rfl
  go_wp2_with (at_builtin; go_must (refine wpList_appQ _ rfl (.tmp 52) (.tmp 57) rfl w.heap.size _ acc.length css.flatten rfl ow2 K4.size w5.heap.size 1 rfl _ hrg rfl oq.one (by omega) ?_))
  intro v5 w6 o5 g5
  have S5 := Stays.own ow2 (by decide) g5
  have q5 : QsOwn w6 w.heap.size v5 (acc ++ [⟨nm, ty, cl⟩]) := QsOwn.app (v' := v5) hE oq S5 o5
  have M5 := blk_own M4 ow2 (by decide) g5
  have R5 : RdX w6 gr m p3 y3 := blk_own R4 ow2 (by decide) g5
  have E5 := blk_own E4 ow2 (by decide) g5
  have F5 := blk_own F4 ow2 (by decide) g5
  have K5 := below_own K4 K4.size ow2 g5
  obtain ⟨A5, c5, hv5⟩ := q5.form
  subst hv5
  clear m10 kn oq ow hE ow2 Bn hrg K4 R4 M4 E4 F4 K3 R3 M3 E3 F3 N3 o5 g5 S5
  go_wp2_with (refine at_op (.store 47 (.tmp 59) (.tmp 58)) rfl ?_; go_must (refine wpList_stC rfl 47 (.tmp 59) (.tmp 58) rfl g8 10 rfl (.slice A5 (acc ++ [(⟨nm, ty, cl⟩ : Qn)]).length c5) rfl M5 (by rw [msgC_len]; decide) qsInfo1 rfl rfl ?_))
  intro w7 M7 g7 _
  replace M7 : Blk w7 g8 50 (msgC hd (.slice A5 (acc ++ [(⟨nm, ty, cl⟩ : Qn)]).length c5) nilS nilS nilS) := by rw [show (acc ++ [(⟨nm, ty, cl⟩ : Qn)]).length = acc.length + 1 from by simp]; exact M7
  have q7 := q5.blk g7 M5 (by decide) (by decide)
  have R7 : RdX w7 gr m p3 y3 := Blk.grown R5 g7 (by simp; omega)
  have E7 := E5.grown g7 (by simp; omega)
  have F7 := F5.grown g7 (by simp; omega)
  have K7 := below_grown K5 g7 K5.size (by omega)
  clear M5 q5 R5 E5 F5 K5 g7
  go_wp2_with fail
  go_roundw
  case rel => exact ⟨k + 1, acc ++ [⟨nm, ty, cl⟩], p3, y3, _, by omega, by go_num, Hh (by simp [HAL.out]), M7, q7, R7, E7, F7, K7, ZS⟩
  case measure => simp [intOf]; omega
 have S0 : Hid (Step OQ m.length acc p y) := Hh (by
  by_cases hy : y = 0
  ·
   obtain rfl : k = n0 := by omega
   obtain ⟨j, h1, h2, h3⟩ := HO.out.ok hy
   rw [Nat.sub_self, many_zero] at h3
   rw [← h3]
   exact ⟨rfl, h1, hy, h2⟩
  ·
   rw [HO.out.bad hy]
   exact ⟨rfl, hy⟩)
 have EX : (¬ (k : Int) < n0) ∨ ((k : Int) < n0 ∧ (y == 0) = false) := by
  by_cases hkn : k < n0
  ·
   exact .inr ⟨by omega, by simp only [beq_eq_false_iff_ne, ne_eq]; exact fun h => hgo ⟨hkn, h⟩⟩
  ·
   exact .inl (by omega)
 clear HO hgo HAL
 rcases EX with hx1 | ⟨hx1, hx2⟩
 ·
  obtain ⟨O1, hs1, k1, e1⟩ := secS_of S0.out n1
  have K1 := Hh k1
  have E1 := Hh e1
  have RC := Hh (refsec gr m p y n1 wr R hl (by omega) O1 hs1)
  have cc1 := BC.cell_ 1 rfl
  clear k1 e1 hs1
  go_wp2_with fail
  refine RC.out.mono ?_
  rintro _ w3 ⟨v1, l1, p1, y1, rfl, ⟨o1', hl1⟩, R1', g1, S1⟩
  have q1 := oQ.blk g1 R (by decide) (by decide)
  have M1 := B8.grown g1 (by simp; omega)
  have C1 := BC.grown g1 (by simp; omega)
  have D1 := B2.grown g1 (by simp; omega)
  have H1 := below_grown HB g1 HB.size (by omega)
  have T1 := Hh S1
  obtain ⟨A1, c1, hv⟩ := o1'.form
  subst hv
  clear RC cc cc1 c2 R g1 S1 B8 BC B2 HB oQ
  go_wp2_with (refine at_op (.store 48 (.tmp 64) (.tmp 63)) rfl ?_; go_must (refine wpList_stC rfl 48 (.tmp 64) (.tmp 63) rfl g8 11 rfl (.slice A1 l1.length c1) rfl M1 (by rw [msgC_len]; decide) rrsInfo1 rfl rfl ?_))
  intro w4 M2 g2 zs
  clear zs
  replace M2 : Blk w4 g8 50 (msgC hd (.slice A acc.length c) (.slice A1 l1.length c1) nilS nilS) := M2
  have q2 := q1.blk g2 M1 (by decide) (by decide)
  have o1 := (o1'.blk g2 M1 (by decide) (by decide)).to0
  have R1 : RdX w4 gr m p1 y1 := Blk.grown R1' g2 (by simp; omega)
  have C2 := C1.grown g2 (by simp; omega)
  have D2 := D1.grown g2 (by simp; omega)
  have H2 := below_grown H1 g2 H1.size (by omega)
  clear M1 q1 o1' R1' C1 D1 H1 g2
  obtain ⟨O2, hs2, k2, e2⟩ := secS_of T1.out n2
  have K2 := Hh k2
  have E2 := Hh e2
  have RC := Hh (refsec gr m p1 y1 n2 w4 R1 hl (by omega) O2 hs2)
  have cc2 := C2.cell_ 2 rfl
  clear k2 e2 hs2
  go_wp2_with fail
  refine RC.out.mono ?_
  rintro _ w5 ⟨v2, l2, p2, y2, rfl, ⟨o2', hl2⟩, R2', g3, S2⟩
  have q3 := q2.blk g3 R1 (by decide) (by decide)
  have o13 := o1.blk g3 R1 (by decide) (by decide)
  have M3 := M2.grown g3 (by simp; omega)
  have C3 := C2.grown g3 (by simp; omega)
  have D3 := D2.grown g3 (by simp; omega)
  have H3 := below_grown H2 g3 H2.size (by omega)
  have T2 := Hh S2
  obtain ⟨A2, c2', hv⟩ := o2'.form
  subst hv
  clear RC cc2 R1 g3 S2 M2 C2 D2 H2 q2 o1
  go_wp2_with (refine at_op (.store 48 (.tmp 69) (.tmp 68)) rfl ?_; go_must (refine wpList_stC rfl 48 (.tmp 69) (.tmp 68) rfl g8 12 rfl (.slice A2 l2.length c2') rfl M3 (by rw [msgC_len]; decide) rrsInfo1 rfl rfl ?_))
  intro w6 M4 g4 zs
  clear zs
  replace M4 : Blk w6 g8 50 (msgC hd (.slice A acc.length c) (.slice A1 l1.length c1) (.slice A2 l2.length c2') nilS) := M4
  have q4 := q3.blk g4 M3 (by decide) (by decide)
  have o14 := o13.blk g4 M3 (by decide) (by decide)
  have o24 := (o2'.blk g4 M3 (by decide) (by decide)).to0
  have R2 : RdX w6 gr m p2 y2 := Blk.grown R2' g4 (by simp; omega)
  have C4 := C3.grown g4 (by simp; omega)
  have D4 := D3.grown g4 (by simp; omega)
  have H4 := below_grown H3 g4 H3.size (by omega)
  clear M3 q3 o13 o2' R2' C3 D3 H3 g4
  obtain ⟨O3, hs3, k3, e3⟩ := secS_of T2.out n3
  have K3 := Hh k3
  have E3 := Hh e3
  have RC := Hh (refsec gr m p2 y2 n3 w6 R2 hl (by omega) O3 hs3)
  have cc3 := C4.cell_ 3 rfl
  clear k3 e3 hs3
  go_wp2_with fail
  refine RC.out.mono ?_
  rintro _ w7 ⟨v3, l3, p3, y3, rfl, ⟨o3', hl3⟩, R3', g5, S3⟩
  have q5 := q4.blk g5 R2 (by decide) (by decide)
  have o15 := o14.blk g5 R2 (by decide) (by decide)
  have o25 := o24.blk g5 R2 (by decide) (by decide)
  have M5 := M4.grown g5 (by simp; omega)
  have D5 := D4.grown g5 (by simp; omega)
  have H5 := below_grown H4 g5 H4.size (by omega)
  have CH := Hh (dec_chain (hd := hd) S0.out K1.out E1.out T1.out K2.out E2.out T2.out K3.out E3.out S3)
  obtain ⟨A3, c3, hv⟩ := o3'.form
  subst hv
  clear RC cc3 R2 g5 S3 M4 C4 D4 H4 q4 o14 o24 T1 T2 K1 K2 K3 E1 E2 E3 S0
  go_wp2_with (refine at_op (.store 48 (.tmp 74) (.tmp 73)) rfl ?_; go_must (refine wpList_stC rfl 48 (.tmp 74) (.tmp 73) rfl g8 13 rfl (.slice A3 l3.length c3) rfl M5 (by rw [msgC_len]; decide) rrsInfo1 rfl rfl ?_))
  intro wz M6 g6 zs
  clear zs
  replace M6 : Blk wz g8 50 (msgC hd (.slice A acc.length c) (.slice A1 l1.length c1) (.slice A2 l2.length c2') (.slice A3 l3.length c3)) := M6
  have q6 := q5.blk g6 M5 (by decide) (by decide)
  have o16 := o15.blk g6 M5 (by decide) (by decide)
  have o26 := o25.blk g6 M5 (by decide) (by decide)
  have o36 := (o3'.blk g6 M5 (by decide) (by decide)).to0
  have RZ : RdX wz gr m p3 y3 := Blk.grown R3' g6 (by simp; omega)
  have BZ := D5.grown g6 (by simp; omega)
  have HBz := below_grown H5 g6 H5.size (by omega)
  clear M5 q5 o15 o25 o3' R3' D5 H5 g6
  have z1 := Blk.cell_ RZ 1 rfl
  have z2 := Blk.cell_ RZ 2 rfl
  rcases CH.out with ⟨hne, hE⟩ | ⟨h0, j3, hp3, hj3, hE⟩
  ·
   obtain rfl : O = .error y3 := DE.out.trans hE
   have HNE := hne
   have hy2 : (y3 == 0) = false := by simpa using hne
   have hy3 : (y3 != 0) = true := by simpa using hne
   clear CH DE NE hE M6 q6 o16 o26 o36 hne
   go_wp2_with fail
   refine wp_region_held_drew (S := fun V => V.cell? ⟨gr, 2, none⟩ = some (.int .i64 (y3))) (by kernel_rfl) (Blk.cell_ RZ 2 rfl) (fun hS => ?_)
   refine held_val 0 (some 97) (v := .agg msgZ.toArray) rfl rfl (by kernel_rfl) (by kernel_rfl) (by kernel_rfl) (fun _ _ _ h => h) (by kernel_rfl) (fun W hW => by kernel_rfl) hS ?_
   simp only [Act.put, lsA, lsB, lsC]
   (refine held_val 1 (some 98) rfl rfl (by kernel_rfl) (by kernel_rfl) (by kernel_rfl) (fun _ _ _ h => h) (by kernel_rfl) (fun W hW => rfl) hS ?_; simp only [Act.put, lsA, lsB, lsC])
   (refine held_val 2 (some 99) rfl rfl (by kernel_rfl) (by kernel_rfl) (by kernel_rfl) (fun _ _ _ h => h) (by kernel_rfl) (fun W hW => rfl) hS ?_; simp only [Act.put, lsA, lsB, lsC])
   (refine held_val 3 (some 100) rfl rfl (by kernel_rfl) (by kernel_rfl) (by kernel_rfl) (fun _ _ _ h => h) (by kernel_rfl) (fun W hW => rfl) hS ?_; simp only [Act.put, lsA, lsB, lsC])
   refine held_ld 4 (some 101) 142 (.tmp 100) ⟨gr, 2, none⟩ rfl rfl rfl rfl (by kernel_rfl) (by kernel_rfl) (by kernel_rfl) (fun _ _ _ h => h) (by kernel_rfl) (fun W hW => run_load1 underlying142 rfl hW) hS ?_
   simp only [Act.put, lsA, lsB, lsC]
   refine held_stB 5 none 50 (.tmp 2) (.tmp 97) (by kernel_rfl) rfl rfl rfl (by kernel_rfl) w.heap.size 0 rfl msgZ rfl (Blk.drew BZ) (by rw [msgZ_len]; omega) msgInfo msgZ_one ?_
   intro wy By gy _
   replace By := whole14r By (by have := msgZ_len; omega)
   have RY := Blk.grown (Blk.drew RZ) gy (by simp; omega)
   have HBy : Below w.heap.size w wy := below_grown (w := wz.drew) HBz.drew gy HBz.size (Nat.le_refl _)
   refine ⟨Blk.cell_ RY 2 rfl, ?_⟩
   clear hS
   have hS := Blk.cell_ RY 2 rfl
   simp only [Act.put, lsA, lsB, lsC]
   (refine held_val 6 (some 3) rfl rfl (by kernel_rfl) (by kernel_rfl) (by kernel_rfl) (fun _ _ _ h => h) (by kernel_rfl) (fun W hW => rfl) hS ?_; simp only [Act.put, lsA, lsB, lsC])
   refine wpAnyH_done (by kernel_rfl) ?_ _
   clear hS
   go_wp2_with fail
   refine ret_cell_tmp rfl w.heap.size rfl By _ underlying50 rfl msgInfo rfl (.int .i64 (y3)) rfl ?_
   exact ⟨HNE, rfl, HBy⟩
  subst h0 hp3
  by_cases hjl : j3 < m.length
  ·
   obtain rfl : O = .error 2 := by rw [DE.out, hE, if_pos hjl]
   have HNE : (2 : Int) ≠ 0 := by decide
   have hjl' : (j3 : Int) < m.length := by omega
   clear CH DE NE hE M6 q6 o16 o26 o36 hjl
   go_wp2_with (refine at_op (.store 142 (.tmp 91) (.const (.int .i64 2))) rfl ?_; go_must (refine wpList_stC rfl 142 (.tmp 91) (.const (.int .i64 2)) rfl gr 2 rfl (.int .i64 2) rfl RZ (by simp) errInfo1 rfl rfl ?_))
   intro wq RQ gq zs
   clear zs
   have BQ := BZ.grown gq (by simp; omega)
   have HBq := below_grown HBz gq HBz.size (by omega)
   clear z1 z2 RZ BZ HBz gq wz
   obtain ⟨wz, hwz⟩ : ∃ wz, wz = wq := ⟨_, rfl⟩
   subst hwz
   have RZ : RdX wz gr m (j3 : Int) 2 := RQ
   have BZ := BQ
   have HBz := HBq
   have z2 := Blk.cell_ RZ 2 rfl
   clear RQ BQ HBq
   go_wp2_with fail
   refine wp_region_held_drew (S := fun V => V.cell? ⟨gr, 2, none⟩ = some (.int .i64 (2))) (by kernel_rfl) (Blk.cell_ RZ 2 rfl) (fun hS => ?_)
   refine held_val 0 (some 97) (v := .agg msgZ.toArray) rfl rfl (by kernel_rfl) (by kernel_rfl) (by kernel_rfl) (fun _ _ _ h => h) (by kernel_rfl) (fun W hW => by kernel_rfl) hS ?_
   simp only [Act.put, lsA, lsB, lsC]
   (refine held_val 1 (some 98) rfl rfl (by kernel_rfl) (by kernel_rfl) (by kernel_rfl) (fun _ _ _ h => h) (by kernel_rfl) (fun W hW => rfl) hS ?_; simp only [Act.put, lsA, lsB, lsC])
   (refine held_val 2 (some 99) rfl rfl (by kernel_rfl) (by kernel_rfl) (by kernel_rfl) (fun _ _ _ h => h) (by kernel_rfl) (fun W hW => rfl) hS ?_; simp only [Act.put, lsA, lsB, lsC])
   (refine held_val 3 (some 100) rfl rfl (by kernel_rfl) (by kernel_rfl) (by kernel_rfl) (fun _ _ _ h => h) (by kernel_rfl) (fun W hW => rfl) hS ?_; simp only [Act.put, lsA, lsB, lsC])
   refine held_ld 4 (some 101) 142 (.tmp 100) ⟨gr, 2, none⟩ rfl rfl rfl rfl (by kernel_rfl) (by kernel_rfl) (by kernel_rfl) (fun _ _ _ h => h) (by kernel_rfl) (fun W hW => run_load1 underlying142 rfl hW) hS ?_
   simp only [Act.put, lsA, lsB, lsC]
   refine held_stB 5 none 50 (.tmp 2) (.tmp 97) (by kernel_rfl) rfl rfl rfl (by kernel_rfl) w.heap.size 0 rfl msgZ rfl (Blk.drew BZ) (by rw [msgZ_len]; omega) msgInfo msgZ_one ?_
   intro wy By gy _
   replace By := whole14r By (by have := msgZ_len; omega)
   have RY := Blk.grown (Blk.drew RZ) gy (by simp; omega)
   have HBy : Below w.heap.size w wy := below_grown (w := wz.drew) HBz.drew gy HBz.size (Nat.le_refl _)
   refine ⟨Blk.cell_ RY 2 rfl, ?_⟩
   clear hS
   have hS := Blk.cell_ RY 2 rfl
   simp only [Act.put, lsA, lsB, lsC]
   (refine held_val 6 (some 3) rfl rfl (by kernel_rfl) (by kernel_rfl) (by kernel_rfl) (fun _ _ _ h => h) (by kernel_rfl) (fun W hW => rfl) hS ?_; simp only [Act.put, lsA, lsB, lsC])
   refine wpAnyH_done (by kernel_rfl) ?_ _
   clear hS
   go_wp2_with fail
   refine ret_cell_tmp rfl w.heap.size rfl By _ underlying50 rfl msgInfo rfl (.int .i64 (2)) rfl ?_
   exact ⟨HNE, rfl, HBy⟩
  ·
   have hjl' : ¬ (j3 : Int) < m.length := by omega
   obtain rfl : O = .ok ⟨hd, acc, l1, l2, l3⟩ := by rw [DE.out, hE, if_neg hjl]
   obtain ⟨L, hL⟩ : ∃ L, L = msgC hd (.slice A acc.length c) (.slice A1 l1.length c1) (.slice A2 l2.length c2') (.slice A3 l3.length c3) := ⟨_, rfl⟩
   have lL : L.length = 14 := by rw [hL]; rfl
   have oneL := Hh (show ∀ v ∈ L, v.oneCell' = true by rw [hL]; exact msgC_one hd rfl rfl rfl rfl)
   rw [← hL] at M6
   have HLL := Hh hL
   have q7 := q6.to0
   clear hL CH DE NE hE q6 hjl RZ
   go_wp2_with (first
    | (refine at_op (.load 50 (.tmp 8)) rfl ?_; go_must (refine wpList_ldB rfl _ _ rfl g8 0 rfl M6 14 (by omega) _ underlying50 rfl msgInfo L (tk0 (by omega)) ?_))
    | (refine at_op (.store 50 (.tmp 2) (.tmp 102)) rfl ?_; go_must (refine wpList_stB rfl _ _ _ rfl w.heap.size 0 rfl L rfl BZ (by have := msgZ_len; omega) (by rw [lL]; exact msgInfo) oneL.out ?_)))
   intro wy By gy _
   replace By := whole14r By (by have := msgZ_len; omega)
   have HBy := below_grown HBz gy HBz.size (Nat.le_refl _)
   have q8 := q7.blk gy BZ (by decide) (by decide)
   have o18 := o16.blk gy BZ (by decide) (by decide)
   have o28 := o26.blk gy BZ (by decide) (by decide)
   have o38 := o36.blk gy BZ (by decide) (by decide)
   clear gy M6 BZ HBz q7 o16 o26 o36 z1 z2
   go_wp2_with fail
   refine ret_cell_tmp rfl w.heap.size rfl By _ underlying50 rfl (by rw [lL]; exact msgInfo) rfl (.int .i64 0) rfl ?_
   exact ⟨L, rfl, ⟨_, _, _, _, HLL.out, q8, o18, o28, o38, (show acc.length ≤ 65535 by omega), (show l1.length ≤ 65535 by omega), (show l2.length ≤ 65535 by omega), (show l3.length ≤ 65535 by omega)⟩, HBy⟩
 ·
  obtain ⟨O1, hs1, k1, e1⟩ := secS_of S0.out n1
  have K1 := Hh k1
  have E1 := Hh e1
  have RC := Hh (refsec gr m p y n1 wr R hl (by omega) O1 hs1)
  have cc1 := BC.cell_ 1 rfl
  clear k1 e1 hs1
  go_wp2_with fail
  refine RC.out.mono ?_
  rintro _ w3 ⟨v1, l1, p1, y1, rfl, ⟨o1', hl1⟩, R1', g1, S1⟩
  have q1 := oQ.blk g1 R (by decide) (by decide)
  have M1 := B8.grown g1 (by simp; omega)
  have C1 := BC.grown g1 (by simp; omega)
  have D1 := B2.grown g1 (by simp; omega)
  have H1 := below_grown HB g1 HB.size (by omega)
  have T1 := Hh S1
  obtain ⟨A1, c1, hv⟩ := o1'.form
  subst hv
  clear RC cc cc1 c2 R g1 S1 B8 BC B2 HB oQ
  go_wp2_with (refine at_op (.store 48 (.tmp 64) (.tmp 63)) rfl ?_; go_must (refine wpList_stC rfl 48 (.tmp 64) (.tmp 63) rfl g8 11 rfl (.slice A1 l1.length c1) rfl M1 (by rw [msgC_len]; decide) rrsInfo1 rfl rfl ?_))
  intro w4 M2 g2 zs
  clear zs
  replace M2 : Blk w4 g8 50 (msgC hd (.slice A acc.length c) (.slice A1 l1.length c1) nilS nilS) := M2
  have q2 := q1.blk g2 M1 (by decide) (by decide)
  have o1 := (o1'.blk g2 M1 (by decide) (by decide)).to0
  have R1 : RdX w4 gr m p1 y1 := Blk.grown R1' g2 (by simp; omega)
  have C2 := C1.grown g2 (by simp; omega)
  have D2 := D1.grown g2 (by simp; omega)
  have H2 := below_grown H1 g2 H1.size (by omega)
  clear M1 q1 o1' R1' C1 D1 H1 g2
  obtain ⟨O2, hs2, k2, e2⟩ := secS_of T1.out n2
  have K2 := Hh k2
  have E2 := Hh e2
  have RC := Hh (refsec gr m p1 y1 n2 w4 R1 hl (by omega) O2 hs2)
  have cc2 := C2.cell_ 2 rfl
  clear k2 e2 hs2
  go_wp2_with fail
  refine RC.out.mono ?_
  rintro _ w5 ⟨v2, l2, p2, y2, rfl, ⟨o2', hl2⟩, R2', g3, S2⟩
  have q3 := q2.blk g3 R1 (by decide) (by decide)
  have o13 := o1.blk g3 R1 (by decide) (by decide)
  have M3 := M2.grown g3 (by simp; omega)
  have C3 := C2.grown g3 (by simp; omega)
  have D3 := D2.grown g3 (by simp; omega)
  have H3 := below_grown H2 g3 H2.size (by omega)
  have T2 := Hh S2
  obtain ⟨A2, c2', hv⟩ := o2'.form
  subst hv
  clear RC cc2 R1 g3 S2 M2 C2 D2 H2 q2 o1
  go_wp2_with (refine at_op (.store 48 (.tmp 69) (.tmp 68)) rfl ?_; go_must (refine wpList_stC rfl 48 (.tmp 69) (.tmp 68) rfl g8 12 rfl (.slice A2 l2.length c2') rfl M3 (by rw [msgC_len]; decide) rrsInfo1 rfl rfl ?_))
  intro w6 M4 g4 zs
  clear zs
  replace M4 : Blk w6 g8 50 (msgC hd (.slice A acc.length c) (.slice A1 l1.length c1) (.slice A2 l2.length c2') nilS) := M4
  have q4 := q3.blk g4 M3 (by decide) (by decide)
  have o14 := o13.blk g4 M3 (by decide) (by decide)
  have o24 := (o2'.blk g4 M3 (by decide) (by decide)).to0
  have R2 : RdX w6 gr m p2 y2 := Blk.grown R2' g4 (by simp; omega)
  have C4 := C3.grown g4 (by simp; omega)
  have D4 := D3.grown g4 (by simp; omega)
  have H4 := below_grown H3 g4 H3.size (by omega)
  clear M3 q3 o13 o2' R2' C3 D3 H3 g4
  obtain ⟨O3, hs3, k3, e3⟩ := secS_of T2.out n3
  have K3 := Hh k3
  have E3 := Hh e3
  have RC := Hh (refsec gr m p2 y2 n3 w6 R2 hl (by omega) O3 hs3)
  have cc3 := C4.cell_ 3 rfl
  clear k3 e3 hs3
  go_wp2_with fail
  refine RC.out.mono ?_
  rintro _ w7 ⟨v3, l3, p3, y3, rfl, ⟨o3', hl3⟩, R3', g5, S3⟩
  have q5 := q4.blk g5 R2 (by decide) (by decide)
  have o15 := o14.blk g5 R2 (by decide) (by decide)
  have o25 := o24.blk g5 R2 (by decide) (by decide)
  have M5 := M4.grown g5 (by simp; omega)
  have D5 := D4.grown g5 (by simp; omega)
  have H5 := below_grown H4 g5 H4.size (by omega)
  have CH := Hh (dec_chain (hd := hd) S0.out K1.out E1.out T1.out K2.out E2.out T2.out K3.out E3.out S3)
  obtain ⟨A3, c3, hv⟩ := o3'.form
  subst hv
  clear RC cc3 R2 g5 S3 M4 C4 D4 H4 q4 o14 o24 T1 T2 K1 K2 K3 E1 E2 E3 S0
  go_wp2_with (refine at_op (.store 48 (.tmp 74) (.tmp 73)) rfl ?_; go_must (refine wpList_stC rfl 48 (.tmp 74) (.tmp 73) rfl g8 13 rfl (.slice A3 l3.length c3) rfl M5 (by rw [msgC_len]; decide) rrsInfo1 rfl rfl ?_))
  intro wz M6 g6 zs
  clear zs
  replace M6 : Blk wz g8 50 (msgC hd (.slice A acc.length c) (.slice A1 l1.length c1) (.slice A2 l2.length c2') (.slice A3 l3.length c3)) := M6
  have q6 := q5.blk g6 M5 (by decide) (by decide)
  have o16 := o15.blk g6 M5 (by decide) (by decide)
  have o26 := o25.blk g6 M5 (by decide) (by decide)
  have o36 := (o3'.blk g6 M5 (by decide) (by decide)).to0
  have RZ : RdX wz gr m p3 y3 := Blk.grown R3' g6 (by simp; omega)
  have BZ := D5.grown g6 (by simp; omega)
  have HBz := below_grown H5 g6 H5.size (by omega)
  clear M5 q5 o15 o25 o3' R3' D5 H5 g6
  have z1 := Blk.cell_ RZ 1 rfl
  have z2 := Blk.cell_ RZ 2 rfl
  rcases CH.out with ⟨hne, hE⟩ | ⟨h0, j3, hp3, hj3, hE⟩
  ·
   obtain rfl : O = .error y3 := DE.out.trans hE
   have HNE := hne
   have hy2 : (y3 == 0) = false := by simpa using hne
   have hy3 : (y3 != 0) = true := by simpa using hne
   clear CH DE NE hE M6 q6 o16 o26 o36 hne
   go_wp2_with fail
   refine wp_region_held_drew (S := fun V => V.cell? ⟨gr, 2, none⟩ = some (.int .i64 (y3))) (by kernel_rfl) (Blk.cell_ RZ 2 rfl) (fun hS => ?_)
   refine held_val 0 (some 97) (v := .agg msgZ.toArray) rfl rfl (by kernel_rfl) (by kernel_rfl) (by kernel_rfl) (fun _ _ _ h => h) (by kernel_rfl) (fun W hW => by kernel_rfl) hS ?_
   simp only [Act.put, lsA, lsB, lsC]
   (refine held_val 1 (some 98) rfl rfl (by kernel_rfl) (by kernel_rfl) (by kernel_rfl) (fun _ _ _ h => h) (by kernel_rfl) (fun W hW => rfl) hS ?_; simp only [Act.put, lsA, lsB, lsC])
   (refine held_val 2 (some 99) rfl rfl (by kernel_rfl) (by kernel_rfl) (by kernel_rfl) (fun _ _ _ h => h) (by kernel_rfl) (fun W hW => rfl) hS ?_; simp only [Act.put, lsA, lsB, lsC])
   (refine held_val 3 (some 100) rfl rfl (by kernel_rfl) (by kernel_rfl) (by kernel_rfl) (fun _ _ _ h => h) (by kernel_rfl) (fun W hW => rfl) hS ?_; simp only [Act.put, lsA, lsB, lsC])
   refine held_ld 4 (some 101) 142 (.tmp 100) ⟨gr, 2, none⟩ rfl rfl rfl rfl (by kernel_rfl) (by kernel_rfl) (by kernel_rfl) (fun _ _ _ h => h) (by kernel_rfl) (fun W hW => run_load1 underlying142 rfl hW) hS ?_
   simp only [Act.put, lsA, lsB, lsC]
   refine held_stB 5 none 50 (.tmp 2) (.tmp 97) (by kernel_rfl) rfl rfl rfl (by kernel_rfl) w.heap.size 0 rfl msgZ rfl (Blk.drew BZ) (by rw [msgZ_len]; omega) msgInfo msgZ_one ?_
   intro wy By gy _
   replace By := whole14r By (by have := msgZ_len; omega)
   have RY := Blk.grown (Blk.drew RZ) gy (by simp; omega)
   have HBy : Below w.heap.size w wy := below_grown (w := wz.drew) HBz.drew gy HBz.size (Nat.le_refl _)
   refine ⟨Blk.cell_ RY 2 rfl, ?_⟩
   clear hS
   have hS := Blk.cell_ RY 2 rfl
   simp only [Act.put, lsA, lsB, lsC]
   (refine held_val 6 (some 3) rfl rfl (by kernel_rfl) (by kernel_rfl) (by kernel_rfl) (fun _ _ _ h => h) (by kernel_rfl) (fun W hW => rfl) hS ?_; simp only [Act.put, lsA, lsB, lsC])
   refine wpAnyH_done (by kernel_rfl) ?_ _
   clear hS
   go_wp2_with fail
   refine ret_cell_tmp rfl w.heap.size rfl By _ underlying50 rfl msgInfo rfl (.int .i64 (y3)) rfl ?_
   exact ⟨HNE, rfl, HBy⟩
  subst h0 hp3
  by_cases hjl : j3 < m.length
  ·
   obtain rfl : O = .error 2 := by rw [DE.out, hE, if_pos hjl]
   have HNE : (2 : Int) ≠ 0 := by decide
   have hjl' : (j3 : Int) < m.length := by omega
   clear CH DE NE hE M6 q6 o16 o26 o36 hjl
   go_wp2_with (refine at_op (.store 142 (.tmp 91) (.const (.int .i64 2))) rfl ?_; go_must (refine wpList_stC rfl 142 (.tmp 91) (.const (.int .i64 2)) rfl gr 2 rfl (.int .i64 2) rfl RZ (by simp) errInfo1 rfl rfl ?_))
   intro wq RQ gq zs
   clear zs
   have BQ := BZ.grown gq (by simp; omega)
   have HBq := below_grown HBz gq HBz.size (by omega)
   clear z1 z2 RZ BZ HBz gq wz
   obtain ⟨wz, hwz⟩ : ∃ wz, wz = wq := ⟨_, rfl⟩
   subst hwz
   have RZ : RdX wz gr m (j3 : Int) 2 := RQ
   have BZ := BQ
   have HBz := HBq
   have z2 := Blk.cell_ RZ 2 rfl
   clear RQ BQ HBq
   go_wp2_with fail
   refine wp_region_held_drew (S := fun V => V.cell? ⟨gr, 2, none⟩ = some (.int .i64 (2))) (by kernel_rfl) (Blk.cell_ RZ 2 rfl) (fun hS => ?_)
   refine held_val 0 (some 97) (v := .agg msgZ.toArray) rfl rfl (by kernel_rfl) (by kernel_rfl) (by kernel_rfl) (fun _ _ _ h => h) (by kernel_rfl) (fun W hW => by kernel_rfl) hS ?_
   simp only [Act.put, lsA, lsB, lsC]
   (refine held_val 1 (some 98) rfl rfl (by kernel_rfl) (by kernel_rfl) (by kernel_rfl) (fun _ _ _ h => h) (by kernel_rfl) (fun W hW => rfl) hS ?_; simp only [Act.put, lsA, lsB, lsC])
   (refine held_val 2 (some 99) rfl rfl (by kernel_rfl) (by kernel_rfl) (by kernel_rfl) (fun _ _ _ h => h) (by kernel_rfl) (fun W hW => rfl) hS ?_; simp only [Act.put, lsA, lsB, lsC])
   (refine held_val 3 (some 100) rfl rfl (by kernel_rfl) (by kernel_rfl) (by kernel_rfl) (fun _ _ _ h => h) (by kernel_rfl) (fun W hW => rfl) hS ?_; simp only [Act.put, lsA, lsB, lsC])
   refine held_ld 4 (some 101) 142 (.tmp 100) ⟨gr, 2, none⟩ rfl rfl rfl rfl (by kernel_rfl) (by kernel_rfl) (by kernel_rfl) (fun _ _ _ h => h) (by kernel_rfl) (fun W hW => run_load1 underlying142 rfl hW) hS ?_
   simp only [Act.put, lsA, lsB, lsC]
   refine held_stB 5 none 50 (.tmp 2) (.tmp 97) (by kernel_rfl) rfl rfl rfl (by kernel_rfl) w.heap.size 0 rfl msgZ rfl (Blk.drew BZ) (by rw [msgZ_len]; omega) msgInfo msgZ_one ?_
   intro wy By gy _
   replace By := whole14r By (by have := msgZ_len; omega)
   have RY := Blk.grown (Blk.drew RZ) gy (by simp; omega)
   have HBy : Below w.heap.size w wy := below_grown (w := wz.drew) HBz.drew gy HBz.size (Nat.le_refl _)
   refine ⟨Blk.cell_ RY 2 rfl, ?_⟩
   clear hS
   have hS := Blk.cell_ RY 2 rfl
   simp only [Act.put, lsA, lsB, lsC]
   (refine held_val 6 (some 3) rfl rfl (by kernel_rfl) (by kernel_rfl) (by kernel_rfl) (fun _ _ _ h => h) (by kernel_rfl) (fun W hW => rfl) hS ?_; simp only [Act.put, lsA, lsB, lsC])
   refine wpAnyH_done (by kernel_rfl) ?_ _
   clear hS
   go_wp2_with fail
   refine ret_cell_tmp rfl w.heap.size rfl By _ underlying50 rfl msgInfo rfl (.int .i64 (2)) rfl ?_
   exact ⟨HNE, rfl, HBy⟩
  ·
   have hjl' : ¬ (j3 : Int) < m.length := by omega
   obtain rfl : O = .ok ⟨hd, acc, l1, l2, l3⟩ := by rw [DE.out, hE, if_neg hjl]
   obtain ⟨L, hL⟩ : ∃ L, L = msgC hd (.slice A acc.length c) (.slice A1 l1.length c1) (.slice A2 l2.length c2') (.slice A3 l3.length c3) := ⟨_, rfl⟩
   have lL : L.length = 14 := by rw [hL]; rfl
   have oneL := Hh (show ∀ v ∈ L, v.oneCell' = true by rw [hL]; exact msgC_one hd rfl rfl rfl rfl)
   rw [← hL] at M6
   have HLL := Hh hL
   have q7 := q6.to0
   clear hL CH DE NE hE q6 hjl RZ
   go_wp2_with (first
    | (refine at_op (.load 50 (.tmp 8)) rfl ?_; go_must (refine wpList_ldB rfl _ _ rfl g8 0 rfl M6 14 (by omega) _ underlying50 rfl msgInfo L (tk0 (by omega)) ?_))
    | (refine at_op (.store 50 (.tmp 2) (.tmp 102)) rfl ?_; go_must (refine wpList_stB rfl _ _ _ rfl w.heap.size 0 rfl L rfl BZ (by have := msgZ_len; omega) (by rw [lL]; exact msgInfo) oneL.out ?_)))
   intro wy By gy _
   replace By := whole14r By (by have := msgZ_len; omega)
   have HBy := below_grown HBz gy HBz.size (Nat.le_refl _)
   have q8 := q7.blk gy BZ (by decide) (by decide)
   have o18 := o16.blk gy BZ (by decide) (by decide)
   have o28 := o26.blk gy BZ (by decide) (by decide)
   have o38 := o36.blk gy BZ (by decide) (by decide)
   clear gy M6 BZ HBz q7 o16 o26 o36 z1 z2
   go_wp2_with fail
   refine ret_cell_tmp rfl w.heap.size rfl By _ underlying50 rfl (by rw [lL]; exact msgInfo) rfl (.int .i64 0) rfl ?_
   exact ⟨L, rfl, ⟨_, _, _, _, HLL.out, q8, o18, o28, o38, (show acc.length ≤ 65535 by omega), (show l1.length ≤ 65535 by omega), (show l2.length ≤ 65535 by omega), (show l3.length ≤ 65535 by omega)⟩, HBy⟩
theorem refdecode_any (m : List UInt8) (w : World) : Calls prog 78 #[.string (bs m)] w (DecRet (decM m) w) := by
 by_cases h1 : 65535 < m.length
 ·
  have e : decM m = .error 3 := by unfold decM; rw [if_pos h1]
  rw [e]; exact refdecode_long m w h1
 ·
  by_cases h2 : m.length < 12
  ·
   have e : decM m = .error 1 := by unfold decM; rw [if_neg h1, if_pos h2]
   rw [e]; exact refdecode_short m w h2
  ·
   exact refdecode_main m w (by omega) (by omega)
theorem refdecode_one (m : List UInt8) (w : World) : Calls prog 78 #[.string (bs m)] w (DecOne (decM m) w) := (refdecode_any m w).mono fun _ _ h => dec_one h
end Go.Proofs.YthnbcmlnpdabhaaGreat
