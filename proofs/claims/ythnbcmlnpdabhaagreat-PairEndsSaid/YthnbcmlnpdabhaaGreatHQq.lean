/-
  Great and small letters: ascii.small, Same; domain.Same.
-/
import Derived.Test.YthnbcmlnpdabhaaGreatHPq
namespace Go.Proofs.YthnbcmlnpdabhaaGreat
open _root_.Go.Proofs.Tryz
open Go.RowKit
set_option maxRecDepth 100000
set_option linter.unusedVariables false
set_option linter.unusedSimpArgs false
def low8 (c : UInt8) : UInt8 := if 65 ≤ c.toNat ∧ c.toNat ≤ 90 then UInt8.ofNat (c.toNat + 32) else c
def lowT (l : List UInt8) : List UInt8 := l.map low8
def lowN (n : List (List UInt8)) : List (List UInt8) := n.map lowT
theorem low8_yes {c : UInt8} (h : 65 ≤ c.toNat ∧ c.toNat ≤ 90) : (low8 c).toNat = c.toNat + 32 := by
 unfold low8; rw [if_pos h, UInt8.toNat_ofNat']; omega
theorem low8_no {c : UInt8} (h : ¬ (65 ≤ c.toNat ∧ c.toNat ≤ 90)) : low8 c = c := by unfold low8; rw [if_neg h]
theorem lowT_len (l : List UInt8) : (lowT l).length = l.length := by simp [lowT]
theorem lowN_len (l : List (List UInt8)) : (lowN l).length = l.length := by simp [lowN]
theorem small_any (c : UInt8) (w : World) : Calls prog 252 #[.int .u8 (c.toNat : Int)] w (Ret (.int .u8 ((low8 c).toNat : Int)) w) := by
 have hc := c.toNat_lt
 by_cases h : 65 ≤ c.toNat ∧ c.toNat ≤ 90
 ·
  have e := low8_yes h
  rw [e]
  obtain ⟨h1, h2⟩ := h
  have h1' : (65 : Int) ≤ c.toNat := by omega
  have h2' : (c.toNat : Int) ≤ 90 := by omega
  clear e h1 h2
  generalize c.toNat = k at *
  go_enter func252, ntmps252
  go_wp2_with fail
  go_ret
  exact Ret.mk (ret_int (by omega)) rfl
 ·
  rw [low8_no h]
  by_cases h1 : 65 ≤ c.toNat
  ·
   have h2 : ¬ c.toNat ≤ 90 := fun h2 => h ⟨h1, h2⟩
   have h1' : (65 : Int) ≤ c.toNat := by omega
   have h2' : ¬ (c.toNat : Int) ≤ 90 := by omega
   clear h h1 h2
   generalize c.toNat = k at *
   go_enter func252, ntmps252
   go_wp2_with fail
   go_ret
   exact Ret.mk rfl rfl
  ·
   have h1' : ¬ (65 : Int) ≤ c.toNat := by omega
   clear h h1
   generalize c.toNat = k at *
   go_enter func252, ntmps252
   go_wp2_with fail
   go_ret
   exact Ret.mk rfl rfl
theorem lowT_at {a b : List UInt8} {k : Nat} (ha : k < a.length) (hb : k < b.length) (h : low8 a[k] ≠ low8 b[k]) : lowT a ≠ lowT b := by
 intro e
 have := congrArg (fun l : List UInt8 => l[k]?) e
 simp [lowT, ha, hb] at this
 exact h this
theorem lowT_eq {a b : List UInt8} (hl : a.length = b.length) (h : ∀ i (ha : i < a.length) (hb : i < b.length), low8 a[i] = low8 b[i]) : lowT a = lowT b := by
 refine List.ext_getElem (by simp [lowT, hl]) fun i h1 h2 => ?_
 simp only [lowT, List.getElem_map]
 exact h i (by simpa [lowT] using h1) (by simpa [lowT] using h2)
set_option maxHeartbeats 2000000 in
theorem asame_any (a b : List UInt8) (w : World) (ha : a.length ≤ maxLen) (hb : b.length ≤ maxLen) :
  Calls prog 242 #[.string (bs a), .string (bs b)] w (RetB (.bool (decide (lowT a = lowT b))) w) := by
 unfold maxLen at ha hb
 by_cases hl : a.length = b.length
 case neg =>
  have hd : decide (lowT a = lowT b) = false := decide_eq_false (fun e => hl (by rw [← lowT_len a, ← lowT_len b, e]))
  have hl' : ((a.length : Int) != (b.length : Int)) = true := by simp; omega
  rw [hd]
  clear hd hl
  go_enter func242, ntmps242
  go_wp2_with fail
  go_ret
  exact RetB.mk rfl (Below.refl _ _)
 have hl' : ((a.length : Int) != (b.length : Int)) = false := by simp; omega
 have HL := Hh hl
 obtain ⟨q, hqq⟩ : ∃ q, Hid (decide (lowT a = lowT b) = q) := ⟨_, Hh rfl⟩
 rw [hqq.out]
 clear hl
 go_enter func242, ntmps242
 go_wp2_with fail
 go_loopw [13] (fun iv wr => ∃ k : Nat, k ≤ a.length ∧ iv = .int .i64 k ∧ Hid (∀ i (h1 : i < a.length) (h2 : i < b.length), i < k → low8 a[i] = low8 b[i]) ∧ Below w.heap.size w wr) (fun iv _ => a.length - (intOf iv).toNat)
 case atStart => exact ⟨0, Nat.zero_le _, rfl, Hh (fun i _ _ h => absurd h (by omega)), Below.refl _ _⟩
 obtain ⟨k, hk, rfl, HE, hB⟩ := hrel
 by_cases hlt : k < a.length
 case pos =>
  have hlt' : (k : Int) < a.length := by omega
  have hlb : k < b.length := by have := HL.out; omega
  have S1 := fun w => small_any a[k] w
  have S2 := fun w => small_any b[k] w
  obtain ⟨x, hx⟩ : ∃ x : Nat, Hid ((low8 a[k]).toNat = x) := ⟨_, Hh rfl⟩
  obtain ⟨y, hy⟩ : ∃ y : Nat, Hid ((low8 b[k]).toNat = y) := ⟨_, Hh rfl⟩
  simp only [hx.out] at S1
  simp only [hy.out] at S2
  have HS1 := Hh S1
  have HS2 := Hh S2
  clear S1 S2
  by_cases hxy : x = y
  ·
   subst hxy
   go_wp2_with fail
   go_quiet ((go_at_call 252; (first | with_reducible exact Ret.quiet (HS1.out _) | with_reducible exact Ret.quiet (HS2.out _))))
   go_wp2_with fail
   go_roundw
   case rel => exact ⟨k + 1, by omega, by go_num, Hh (fun i h1 h2 h3 => by
    by_cases hi : i = k
    ·
     subst hi; exact UInt8.toNat_inj.1 (hx.out.trans hy.out.symm)
    ·
     exact HE.out i h1 h2 (by omega)), below_drewN hB _⟩
   case measure => simp [intOf]; omega
  ·
   obtain rfl : q = false := by
    rw [← hqq.out]
    refine decide_eq_false (lowT_at hlt hlb (fun e => hxy ?_))
    rw [← hx.out, ← hy.out, e]
   have hne : ((x : Int) != (y : Int)) = true := by simp; omega
   clear hxy hqq
   go_wp2_with fail
   go_quiet ((go_at_call 252; (first | with_reducible exact Ret.quiet (HS1.out _) | with_reducible exact Ret.quiet (HS2.out _))))
   go_wp2_with fail
   go_ret
   exact RetB.mk rfl (below_drewN hB _)
 obtain rfl : k = a.length := by omega
 have hlt' : ¬ (a.length : Int) < a.length := by omega
 obtain rfl : q = true := by
  rw [← hqq.out]
  exact decide_eq_true (lowT_eq HL.out (fun i h1 h2 => HE.out i h1 h2 h1))
 clear HE hqq hlt hk
 go_wp2_with fail
 go_ret
 exact RetB.mk rfl hB
theorem lowN_at {a b : List (List UInt8)} {k : Nat} (ha : k < a.length) (hb : k < b.length) (h : lowT a[k] ≠ lowT b[k]) : lowN a ≠ lowN b := by
 intro e
 have := congrArg (fun l : List (List UInt8) => l[k]?) e
 simp [lowN, ha, hb] at this
 exact h this
theorem lowN_eq {a b : List (List UInt8)} (hl : a.length = b.length) (h : ∀ i (ha : i < a.length) (hb : i < b.length), lowT a[i] = lowT b[i]) : lowN a = lowN b := by
 refine List.ext_getElem (by simp [lowN, hl]) fun i h1 h2 => ?_
 simp only [lowN, List.getElem_map]
 exact h i (by simpa [lowN] using h1) (by simpa [lowN] using h2)
set_option maxHeartbeats 1000000 in
theorem dsame_any (A B : Option Addr) (a b : List (List UInt8)) (ca cb : Nat) (w : World) (hA : NmR w A ca a) (hB : NmR w B cb b) :
  Calls prog 218 #[.slice A a.length ca, .slice B b.length cb] w (RetB (.bool (decide (lowN a = lowN b))) w) := by
 obtain ⟨tA, cA, lA, mA⟩ := hA
 obtain ⟨tB, cB, lB, mB⟩ := hB
 by_cases hl : a.length = b.length
 case neg =>
  have hd : decide (lowN a = lowN b) = false := decide_eq_false (fun e => hl (by rw [← lowN_len a, ← lowN_len b, e]))
  have hl' : ((a.length : Int) != (b.length : Int)) = true := by simp; omega
  rw [hd]
  clear hd hl
  go_enter func218, ntmps218
  go_wp2_with fail
  go_ret
  exact RetB.mk rfl (Below.refl _ _)
 have hl' : ((a.length : Int) != (b.length : Int)) = false := by simp; omega
 have HL := Hh hl
 obtain ⟨q, hqq⟩ : ∃ q, Hid (decide (lowN a = lowN b) = q) := ⟨_, Hh rfl⟩
 rw [hqq.out]
 clear hl
 go_enter func218, ntmps218
 go_wp2_with fail
 go_loopw [14] (fun iv wr => ∃ k : Nat, k ≤ a.length ∧ iv = .int .i64 k ∧ Hid (∀ i (h1 : i < a.length) (h2 : i < b.length), i < k → lowT a[i] = lowT b[i]) ∧ Below w.heap.size w wr) (fun iv _ => a.length - (intOf iv).toNat)
 case atStart => exact ⟨0, Nat.zero_le _, rfl, Hh (fun i _ _ h => absurd h (by omega)), Below.refl _ _⟩
 obtain ⟨k, hk, rfl, HE, hB⟩ := hrel
 by_cases hlt : k < a.length
 case pos =>
  have hlt' : (k : Int) < a.length := by omega
  have hlb : k < b.length := by have := HL.out; omega
  have hlb' : (k : Int) < b.length := by omega
  obtain ⟨ba, oa, rfl, la, xa⟩ := tA (by omega)
  obtain ⟨bb, ob, rfl, lb, xb⟩ := tB (by omega)
  have c1 : wr.cell? ⟨ba, oa + k, none⟩ = some (.string (bs a[k])) := (hB.cell (p := ⟨ba, oa + k, none⟩) la).trans (xa k hlt)
  have c2 : wr.cell? ⟨bb, ob + k, none⟩ = some (.string (bs b[k])) := (hB.cell (p := ⟨bb, ob + k, none⟩) lb).trans (xb k hlb)
  have S := Hh (fun w => asame_any a[k] b[k] w (by have := mA _ (List.getElem_mem hlt); simp only [maxLen]; omega) (by have := mB _ (List.getElem_mem hlb); simp only [maxLen]; omega))
  obtain ⟨s, hs⟩ : ∃ s, Hid (decide (lowT a[k] = lowT b[k]) = s) := ⟨_, Hh rfl⟩
  rw [hs.out] at S
  clear xa xb mA mB
  go_wp2_with fail
  refine (S.out _).mono ?_
  rintro _ w1 ⟨rfl, b1⟩
  have HB1 := below_then hB hB.size b1
  clear b1 S c1 c2
  cases s with
  | false =>
   obtain rfl : q = false := by
    rw [← hqq.out]
    exact decide_eq_false (lowN_at hlt hlb (of_decide_eq_false hs.out))
   clear hqq hs
   go_wp2_with fail
   go_ret
   exact RetB.mk rfl HB1
  | true =>
   go_wp2_with fail
   go_roundw
   case rel => exact ⟨k + 1, by omega, by go_num, Hh (fun i h1 h2 h3 => by
    by_cases hi : i = k
    ·
     subst hi; exact of_decide_eq_true hs.out
    ·
     exact HE.out i h1 h2 (by omega)), HB1⟩
   case measure => simp [intOf]; omega
 obtain rfl : k = a.length := by omega
 have hlt' : ¬ (a.length : Int) < a.length := by omega
 obtain rfl : q = true := by
  rw [← hqq.out]
  exact decide_eq_true (lowN_eq HL.out (fun i h1 h2 => HE.out i h1 h2 h1))
 clear HE hqq hlt hk tA tB mA mB
 go_wp2_with fail
 go_ret
 exact RetB.mk rfl hB
structure Qy where
 sv : Adr
 port : Int
 id : Int
 q : Qn
def qyC (vn : Value) (y : Qy) : List Value := y.sv.cells ++ [.int .i64 y.port, .int .i64 y.id, vn, .int .i64 y.q.ty, .int .i64 y.q.cl]
structure QyIs (w : World) (cs : List Value) (y : Qy) (A : Option Addr) (c : Nat) : Prop where
 hcs : cs = qyC (.slice A y.q.name.length c) y
 ip : y.sv.ip.length = 16
 nm : NmR w A c y.q.name
theorem QyIs.below {w w' : World} {cs : List Value} {y : Qy} {A : Option Addr} {c : Nat} (h : QyIs w cs y A c) (hb : Below w.heap.size w w') : QyIs w' cs y A c := ⟨h.hcs, h.ip, h.nm.below hb⟩
section
variable {vn : Value} {y : Qy}
theorem qyC_len (h : y.sv.ip.length = 16) : (qyC vn y).length = 23 := by simp [qyC, y.sv.cells_len h]
theorem qyC_ad (h : y.sv.ip.length = 16) : ((qyC vn y).drop 0).take 18 = y.sv.cells := by rw [List.drop_zero]; unfold qyC; exact List.take_left' (y.sv.cells_len h)
theorem qyC_at (h : y.sv.ip.length = 16) (k : Nat) : (qyC vn y)[18 + k]? = [Value.int .i64 y.port, .int .i64 y.id, vn, .int .i64 y.q.ty, .int .i64 y.q.cl][k]? := by
 unfold qyC
 rw [List.getElem?_append_right (by rw [y.sv.cells_len h]; omega), y.sv.cells_len h, Nat.add_sub_cancel_left]
theorem qyC_q (h : y.sv.ip.length = 16) : ((qyC vn y).drop 20).take 3 = qC vn y.q := by
 have e : (qyC vn y).drop 20 = (([Value.int .i64 y.port, .int .i64 y.id, vn, .int .i64 y.q.ty, .int .i64 y.q.cl] : List Value)).drop 2 := by
  unfold qyC
  rw [show (20 : Nat) = y.sv.cells.length + 2 by rw [y.sv.cells_len h], List.drop_append]
  simp
 rw [e]; rfl
theorem qyC_one (h : vn.oneCell' = true) : ∀ v ∈ qyC vn y, v.oneCell' = true := by
 intro v hv
 rcases List.mem_append.1 hv with hv | hv
 ·
  exact y.sv.cells_one v hv
 ·
  simp only [List.mem_cons, List.not_mem_nil, or_false] at hv
  rcases hv with rfl | rfl | rfl | rfl | rfl <;> first | rfl | exact h
end
def fitQ (x y : Qn) : Bool := decide (x.ty = y.ty) && (decide (x.cl = y.cl) && decide (lowN x.name = lowN y.name))
def replyB (y : Qy) (m : Msg) : Bool := m.hd.qr && (decide (m.hd.op = 0) && (decide (m.hd.id = y.id) && match m.qs with
 | [x] => fitQ x y.q
 | _ => false))
theorem replyB_one {y : Qy} {m : Msg} {x : Qn} (h : m.qs = [x]) : replyB y m = (m.hd.qr && (decide (m.hd.op = 0) && (decide (m.hd.id = y.id) && fitQ x y.q))) := by unfold replyB; rw [h]
theorem replyB_no {y : Qy} {m : Msg} (h : m.qs.length ≠ 1) : replyB y m = false := by
 unfold replyB
 cases hq : m.qs with
 | nil => simp
 | cons x l =>
  cases l with
  | nil => rw [hq] at h; simp at h
  | cons z l => simp
set_option maxHeartbeats 4000000 in
theorem reply_any (cs ds : List Value) (y : Qy) (m : Msg) (A : Option Addr) (c : Nat) (Aq Aa Au Ae : Option Addr) (cq ca cu ce : Nat) (w : World) (h1 : QyIs w cs y A c) (h2 : MsgIs w ds m Aq Aa Au Ae cq ca cu ce) :
  Calls prog 180 #[.agg cs.toArray, .agg ds.toArray] w (RetB (.bool (replyB y m)) w) := by
 obtain ⟨t1, ht1⟩ : ∃ t1 : TypeId, t1 = 37 := ⟨_, rfl⟩
 have hip := h1.ip
 have hl1 : cs.length = 23 := by rw [h1.hcs]; exact qyC_len hip
 have L19 : cs[19]? = some (.int .i64 y.id) := by rw [h1.hcs]; exact qyC_at hip 1
 have L20 : cs[20]? = some (.slice A y.q.name.length c) := by rw [h1.hcs]; exact qyC_at hip 2
 have L21 : cs[21]? = some (.int .i64 y.q.ty) := by rw [h1.hcs]; exact qyC_at hip 3
 have L22 : cs[22]? = some (.int .i64 y.q.cl) := by rw [h1.hcs]; exact qyC_at hip 4
 have M0 : ds[0]? = some (.int .i64 m.hd.id) := by rw [h2.hcs]; rfl
 have M1 : ds[1]? = some (.bool m.hd.qr) := by rw [h2.hcs]; rfl
 have M2 : ds[2]? = some (.int .i64 m.hd.op) := by rw [h2.hcs]; rfl
 have M10 : ds[10]? = some (.slice Aq m.qs.length cq) := by rw [h2.hcs]; rfl
 have hq := h2.hq
 have lq := h2.lq
 have B2 := Blk.new' (w.alloc (.cells cs.toArray t1)) 50 ds (w.heap.size + 1) (by simp)
 have B1 := (Blk.new w t1 cs).alloc (.cells ds.toArray 50)
 have HB : Below w.heap.size w ((w.alloc (.cells cs.toArray t1)).alloc (.cells ds.toArray 50)) := ((Below.refl _ _).alloc (Nat.le_refl _) _).alloc (by simp) _
 have a19 := B1.cell_ 19 L19
 have a20 := B1.cell_ 20 L20
 have a21 := B1.cell_ 21 L21
 have a22 := B1.cell_ 22 L22
 have d0 := B2.cell_ 0 M0
 have d1 := B2.cell_ 1 M1
 have d2 := B2.cell_ 2 M2
 have d10 := B2.cell_ 10 M10
 subst ht1
 obtain ⟨O, hO⟩ : ∃ O, Hid (replyB y m = O) := ⟨_, Hh rfl⟩
 rw [hO.out]
 have hN := Hh h1.nm
 have HQ := Hh hq
 clear h1 h2 hip L19 L20 L21 L22 M0 M1 M2 M10 hq
 cases hqr : m.hd.qr with
 | false =>
  obtain rfl : O = false := by rw [← hO.out]; unfold replyB; rw [hqr]; rfl
  rw [hqr] at d1
  clear hqr hO
  go_enter func180, ntmps180
  go_wp2_with fail
  go_ret
  exact RetB.mk rfl HB
 | true =>
 rw [hqr] at d1
 by_cases hop : m.hd.op = 0
 case neg =>
  obtain rfl : O = false := by rw [← hO.out]; unfold replyB; rw [decide_eq_false hop]; simp
  have hop' : (m.hd.op != 0) = true := by simpa using hop
  clear hqr hO hop
  go_enter func180, ntmps180
  go_wp2_with fail
  go_ret
  exact RetB.mk rfl HB
 rw [hop] at d2
 by_cases hid : m.hd.id = y.id
 case neg =>
  obtain rfl : O = false := by rw [← hO.out]; unfold replyB; rw [decide_eq_false hid]; simp
  have hid' : (m.hd.id != y.id) = true := by simpa using hid
  clear hqr hO hop hid
  go_enter func180, ntmps180
  go_wp2_with fail
  go_ret
  exact RetB.mk rfl HB
 by_cases hll : m.qs.length = 1
 case neg =>
  obtain rfl : O = false := by rw [← hO.out]; exact replyB_no hll
  have hll' : ((m.qs.length : Int) != 1) = true := by simp; omega
  rw [hid] at d0
  clear hqr hO hop hid hll
  go_enter func180, ntmps180
  go_wp2_with fail
  go_ret
  exact RetB.mk rfl HB
 obtain ⟨x, hx⟩ := List.length_eq_one_iff.1 hll
 have HQ' : QsR w Aq [x] := hx ▸ HQ.out
 obtain ⟨ba, oa, eA, hba, hel⟩ := HQ' (by simp)
 subst eA
 obtain ⟨An, cn, hr, hNx⟩ := hel 0 (by simp)
 have hrg := range_below hr HB hba
 have hOf : fitQ x y.q = O := by rw [← hO.out, replyB_one hx, hqr, decide_eq_true hop, decide_eq_true hid]; rfl
 have HOF := Hh hOf
 rw [hid] at d0
 rw [hll] at d10
 replace hrg : ((w.alloc (.cells cs.toArray 37)).alloc (.cells ds.toArray 50)).rangeAt ba oa [.slice An x.name.length cn, .int .i64 x.ty, .int .i64 x.cl] := hrg
 have SM := Hh (fun w' (b : Below w.heap.size w w') => dsame_any An A x.name y.q.name cn c w' (hNx.below b) (hN.out.below b))
 have e20 : ∀ o : Obj, (((w.alloc (.cells cs.toArray 37)).alloc (.cells ds.toArray 50)).alloc o).cell? ⟨w.heap.size, 20, none⟩ = some (.slice A y.q.name.length c) := fun o => ((B1.alloc o).cell 20).trans ((B1.cell 20).symm.trans a20)
 have e21 : ∀ o : Obj, (((w.alloc (.cells cs.toArray 37)).alloc (.cells ds.toArray 50)).alloc o).cell? ⟨w.heap.size, 21, none⟩ = some (.int .i64 y.q.ty) := fun o => ((B1.alloc o).cell 21).trans ((B1.cell 21).symm.trans a21)
 have e22 : ∀ o : Obj, (((w.alloc (.cells cs.toArray 37)).alloc (.cells ds.toArray 50)).alloc o).cell? ⟨w.heap.size, 22, none⟩ = some (.int .i64 y.q.cl) := fun o => ((B1.alloc o).cell 22).trans ((B1.cell 22).symm.trans a22)
 have HB3 : ∀ o : Obj, Below w.heap.size w (((w.alloc (.cells cs.toArray 37)).alloc (.cells ds.toArray 50)).alloc o) := fun o => HB.alloc (by simp; omega) _
 have HB3' := Hh HB3
 clear hqr hO hop hid hll hx HQ' hel hr HQ hN hNx hOf HB3 a20 a21 a22 B1 B2 lq hba hl1 HB
 unfold fitQ at HOF
 generalize y.q.ty = ty at *
 generalize y.q.cl = cl at *
 generalize x.ty = xt at *
 generalize x.cl = xl at *
 by_cases hty : xt = ty
 case neg =>
  obtain rfl : O = false := by rw [← HOF.out, decide_eq_false hty]; rfl
  have hty' : (xt == ty) = false := by simpa using hty
  clear hty HOF SM
  go_enter func180, ntmps180
  go_wp2_with (refine at_op (.load 28 (.tmp 32)) rfl ?_; go_must (refine wpList_load_mid rfl 28 (.tmp 32) rfl ba oa rfl _ _ hrg underlying28 rfl qInfo ?_))
  go_ret
  exact RetB.mk rfl (HB3'.out _)
 by_cases hcl : xl = cl
 case neg =>
  obtain rfl : O = false := by rw [← HOF.out, decide_eq_false hcl]; simp
  have hty' : (xt == ty) = true := by simpa using hty
  have hcl' : (xl == cl) = false := by simpa using hcl
  clear hty hcl HOF SM
  go_enter func180, ntmps180
  go_wp2_with (refine at_op (.load 28 (.tmp 32)) rfl ?_; go_must (refine wpList_load_mid rfl 28 (.tmp 32) rfl ba oa rfl _ _ hrg underlying28 rfl qInfo ?_))
  go_ret
  exact RetB.mk rfl (HB3'.out _)
 have hty' : (xt == ty) = true := by simpa using hty
 have hcl' : (xl == cl) = true := by simpa using hcl
 obtain ⟨s, hs⟩ : ∃ s, Hid (decide (lowN x.name = lowN y.q.name) = s) := ⟨_, Hh rfl⟩
 rw [hs.out] at SM
 have hOs := HOF.out
 rw [hs.out, decide_eq_true hty, decide_eq_true hcl] at hOs
 obtain rfl : s = O := hOs
 clear hty hcl HOF hs
 go_enter func180, ntmps180
 go_wp2_with (refine at_op (.load 28 (.tmp 32)) rfl ?_; go_must (refine wpList_load_mid rfl 28 (.tmp 32) rfl ba oa rfl _ _ hrg underlying28 rfl qInfo ?_))
 refine (SM.out _ (HB3'.out _)).mono ?_
 rintro _ w5 ⟨rfl, b5⟩
 have HB5 := below_then (HB3'.out _) (HB3'.out _).size b5
 clear b5 SM
 go_wp2_with fail
 go_ret
 exact RetB.mk rfl HB5
theorem MsgOwn.blk {w w' : World} {g : Nat} {cs L : List Value} {m : Msg} (h : MsgOwn w cs m) (hg : w.grownBy w' (some g)) (hb : Blk w g 50 L) : MsgOwn w' cs m := by
 obtain ⟨vq, va, vu, ve, h1, h2, h3, h4, h5, l⟩ := h
 exact ⟨vq, va, vu, ve, h1, h2.blk hg hb (by decide) (by decide), h3.blk hg hb (by decide) (by decide), h4.blk hg hb (by decide) (by decide), h5.blk hg hb (by decide) (by decide), l⟩
def frameP (y : Qy) (o : Except Int Msg) : Msg × Bool := match o with
 | .ok m => if replyB y m then (m, true) else (Msg.zero, false)
 | .error _ => (Msg.zero, false)
def FrRet (p : Msg × Bool) (w : World) (e : Ending) (w' : World) : Prop := ∃ ds, e = .returned (.tuple #[.agg ds.toArray, .bool p.2]) ∧ MsgOwn w' ds p.1 ∧ Below w.heap.size w w'
theorem qyInfo : (prog.info? 37).map (·.size) = some 23 := by kernel_rfl
theorem whole14 {w : World} {g n : Nat} {L M : List Value} (h : Blk w g 50 (L ++ M.drop n)) (hM : M.length ≤ n) : Blk w g 50 L := by
 rwa [List.drop_of_length_le hM, List.append_nil] at h
set_option maxHeartbeats 4000000 in
theorem frame_any (cs : List Value) (y : Qy) (A : Option Addr) (c : Nat) (s : List UInt8) (w : World) (h : QyIs w cs y A c) (hs : s.length ≤ maxLen) :
  Calls prog 119 #[.agg cs.toArray, .string (bs s)] w (FrRet (frameP y (decM s)) w) := by
 have hcl : cs.length = 23 := by rw [h.hcs]; exact qyC_len h.ip
 have D := Hh (fun w => mdecode_one s w hs)
 have hQ := Hh (fun w' (b : Below w.heap.size w w') => h.below b)
 have C1 : Blk ((w.alloc (.cells cs.toArray 37)).alloc (.cells msgZ.toArray 50)) w.heap.size 37 cs := (Blk.new w 37 cs).alloc _
 have C4 : Blk ((w.alloc (.cells cs.toArray 37)).alloc (.cells msgZ.toArray 50)) (w.heap.size + 1) 50 msgZ := Blk.new' _ 50 msgZ _ (by simp)
 have CB : Below w.heap.size w ((w.alloc (.cells cs.toArray 37)).alloc (.cells msgZ.toArray 50)) := ((Below.refl _ _).alloc (Nat.le_refl _) _).alloc (by simp) _
 obtain ⟨O, hO⟩ : ∃ O, Hid (decM s = O) := ⟨_, Hh rfl⟩
 rw [hO.out] at D ⊢
 clear h hO hs
 go_enter func119, ntmps119
 go_wp2_with fail
 refine (D.out _).mono ?_
 rintro _ w3 ⟨ds, m, x, rfl, hM3, b3, hx⟩
 have B1 := C1.below b3 C1.lt
 have B4 := C4.below b3 C4.lt
 have HB3 := below_then CB CB.size b3
 have hgd : w.heap.size + 1 < w3.heap.size := B4.lt
 have hdl := hM3.len
 have hd1 := Hh hM3.one
 clear b3 C1 C4 CB D
 go_wp2_with (refine at_op (.store 50 (.tmp 6) (.tmp 11)) rfl ?_; go_must (refine wpList_stB rfl _ _ _ rfl w3.heap.size 0 rfl ds rfl (Blk.new' _ _ msgZ _ rfl) (by rw [hdl, msgZ_len]; omega) (by rw [hdl]; exact msgInfo) hd1.out ?_))
 intro w4 B7 g4 _
 replace B7 := whole14 B7 (by have := msgZ_len; omega)
 have k4 : Below w3.heap.size w3 w4 := below_grown ((Below.refl _ _).alloc (Nat.le_refl _) _) g4 (by simp) (Nat.le_refl _)
 have HB4 := below_then HB3 HB3.size k4
 replace B1 := B1.below k4 B1.lt
 replace B4 := B4.below k4 B4.lt
 have hM4 := hM3.below k4
 have hgr : w.heap.size ≤ w.heap.size + 1 := by omega
 have hrl := msgZ_len
 clear g4 k4 hM3 HB3
 generalize w3.heap.size = gd at *
 generalize w.heap.size + 1 = gr at *
 rcases hx with ⟨rfl, hO⟩ | ⟨hx, hO, rfl⟩
 case inr =>
  have hx' : (x != 0) = true := by simpa using hx
  have HF : Hid (frameP y O = (Msg.zero, false)) := Hh (by rw [hO]; rfl)
  clear hx hO hM4 B1 B7 hQ
  go_wp2_with (refine at_op (.store 50 (.tmp 4) (.tmp 21)) rfl ?_; go_must (refine wpList_stB rfl _ _ _ rfl gr 0 rfl msgZ rfl B4 (by omega) msgInfo msgZ_one ?_))
  intro w8 B8 g8 _
  replace B8 := whole14 B8 (by have := msgZ_len; omega)
  have HB8 := below_grown HB4 g8 HB4.size hgr
  clear g8 HB4 B4
  go_wp2_with fail
  refine ret_cell_tmp rfl gr rfl B8 _ underlying50 rfl msgInfo rfl (.bool false) rfl ?_
  rw [HF.out]
  exact ⟨msgZ, rfl, MsgOwn.zero _, HB8⟩
 have RC : Hid (Calls prog 180 #[.agg cs.toArray, .agg ds.toArray] w4 (RetB (.bool (replyB y m)) w4)) := Hh (by
  obtain ⟨_, _, _, _, _, _, _, _, h1⟩ := hM4.is
  exact reply_any cs ds y m A c _ _ _ _ _ _ _ _ w4 (hQ.out _ HB4) h1)
 go_wp2_with (first
  | (refine at_op (.load 37 (.tmp 2)) rfl ?_; go_must (refine wpList_ldG 37 (.tmp 2) rfl (by go_simp) w.heap.size 0 rfl B1 23 (by omega) _ underlying37 rfl qyInfo cs (tk0 (by omega)) ?_))
  | (refine at_op (.load 50 (.tmp 6)) rfl ?_; go_must (refine wpList_ldG 50 (.tmp 6) rfl (by go_simp) gd 0 rfl B7 14 (by omega) _ underlying50 rfl msgInfo ds (tk0 (by omega)) ?_)))
 refine RC.out.mono ?_
 rintro _ w5 ⟨rfl, b5⟩
 have HB5 := below_then HB4 HB4.size b5
 have B75 := B7.below b5 B7.lt
 have B45 := B4.below b5 B4.lt
 have hM5 := hM4.below b5
 clear b5 RC B1 HB4 B7 B4 hM4 hQ
 cases hr : replyB y m with
 | false =>
  have HF : Hid (frameP y O = (Msg.zero, false)) := Hh (by rw [hO]; simp [frameP, hr])
  have HB4 := HB5
  have B4 := B45
  clear hr hO HB5 B45 B75 hM5
  go_wp2_with (refine at_op (.store 50 (.tmp 4) (.tmp 21)) rfl ?_; go_must (refine wpList_stB rfl _ _ _ rfl gr 0 rfl msgZ rfl B4 (by omega) msgInfo msgZ_one ?_))
  intro w8 B8 g8 _
  replace B8 := whole14 B8 (by have := msgZ_len; omega)
  have HB8 := below_grown HB4 g8 HB4.size hgr
  clear g8 HB4 B4
  go_wp2_with fail
  refine ret_cell_tmp rfl gr rfl B8 _ underlying50 rfl msgInfo rfl (.bool false) rfl ?_
  rw [HF.out]
  exact ⟨msgZ, rfl, MsgOwn.zero _, HB8⟩
 | true =>
  have HF : Hid (frameP y O = (m, true)) := Hh (by rw [hO]; simp [frameP, hr])
  clear hr hO
  go_wp2_with (first
   | (refine at_op (.load 50 (.tmp 6)) rfl ?_; go_must (refine wpList_ldB rfl _ _ rfl gd 0 rfl B75 14 (by omega) _ underlying50 rfl msgInfo ds (tk0 (by omega)) ?_))
   | (refine at_op (.store 50 (.tmp 4) (.tmp 22)) rfl ?_; go_must (refine wpList_stB rfl _ _ _ rfl gr 0 rfl ds rfl B45 (by omega) (by rw [hdl]; exact msgInfo) hd1.out ?_)))
  intro w8 B8 g8 _
  replace B8 := whole14 B8 (by have := msgZ_len; omega)
  have HB8 := below_grown HB5 g8 HB5.size hgr
  have hM8 := hM5.blk g8 B45
  clear g8 HB5 B45 B75 hM5
  go_wp2_with fail
  refine ret_cell_tmp rfl gr rfl B8 _ underlying50 rfl (by rw [hdl]; exact msgInfo) rfl (.bool true) rfl ?_
  rw [HF.out]
  exact ⟨ds, rfl, hM8, HB8⟩
structure Ev where
 kind : Int
 fr : Adr
 fp : Int
 port : Int
 data : List UInt8
def evC (e : Ev) : List Value := .int .i64 e.kind :: (e.fr.cells ++ [.int .i64 e.fp, .int .i64 e.port, .string (bs e.data)])
theorem evC_len {e : Ev} (h : e.fr.ip.length = 16) : (evC e).length = 22 := by simp [evC, e.fr.cells_len h]
theorem evC_ad {e : Ev} (h : e.fr.ip.length = 16) : ((evC e).drop 1).take 18 = e.fr.cells := by
 show (e.fr.cells ++ _).take 18 = _
 exact List.take_left' (e.fr.cells_len h)
theorem evC_at {e : Ev} (h : e.fr.ip.length = 16) (k : Nat) : (evC e)[19 + k]? = [Value.int .i64 e.fp, .int .i64 e.port, .string (bs e.data)][k]? := by
 unfold evC
 rw [show 19 + k = (18 + k) + 1 by omega, List.getElem?_cons_succ, List.getElem?_append_right (by rw [e.fr.cells_len h]; omega), e.fr.cells_len h, Nat.add_sub_cancel_left]
theorem adInfoM : (prog.info? 24).map (·.size) = some 18 := by kernel_rfl
def packP (y : Qy) (e : Ev) : Msg × Bool := if e.kind = 2 ∧ e.fr = y.sv ∧ e.fp = 53 ∧ e.port = y.port then frameP y (decM e.data) else (Msg.zero, false)
set_option maxHeartbeats 4000000 in
theorem packet_any (cs : List Value) (y : Qy) (A : Option Addr) (c : Nat) (e : Ev) (w : World) (h : QyIs w cs y A c) (hip : e.fr.ip.length = 16) (hs : e.data.length ≤ maxLen) :
  Calls prog 228 #[.agg cs.toArray, .agg (evC e).toArray] w (FrRet (packP y e) w) := by
 have hcl : cs.length = 23 := by rw [h.hcs]; exact qyC_len h.ip
 have hel := evC_len hip
 have E0 : (evC e)[0]? = some (.int .i64 e.kind) := rfl
 have E19 : (evC e)[19]? = some (.int .i64 e.fp) := evC_at hip 0
 have E20 : (evC e)[20]? = some (.int .i64 e.port) := evC_at hip 1
 have E21 : (evC e)[21]? = some (.string (bs e.data)) := evC_at hip 2
 have Q18 : cs[18]? = some (.int .i64 y.port) := by rw [h.hcs]; exact qyC_at h.ip 0
 have SE := Hh (evC_ad hip)
 have SQ : Hid ((cs.drop 0).take 18 = y.sv.cells) := Hh (by rw [h.hcs]; exact qyC_ad h.ip)
 have EA := run_eqA e.fr y.sv hip h.ip
 have FC := Hh (fun w' (b : Below w.heap.size w w') => frame_any cs y A c e.data w' (h.below b) hs)
 have B2 : Blk (((w.alloc (.cells cs.toArray 37)).alloc (.cells (evC e).toArray 42)).alloc (.cells msgZ.toArray 50)) w.heap.size 37 cs := ((Blk.new w 37 cs).alloc _).alloc _
 have B3 : Blk (((w.alloc (.cells cs.toArray 37)).alloc (.cells (evC e).toArray 42)).alloc (.cells msgZ.toArray 50)) (w.heap.size + 1) 42 (evC e) := (Blk.new' _ 42 (evC e) _ (by simp)).alloc _
 have B4 : Blk (((w.alloc (.cells cs.toArray 37)).alloc (.cells (evC e).toArray 42)).alloc (.cells msgZ.toArray 50)) (w.heap.size + 1 + 1) 50 msgZ := Blk.new' _ 50 msgZ _ (by simp)
 have HB : Below w.heap.size w (((w.alloc (.cells cs.toArray 37)).alloc (.cells (evC e).toArray 42)).alloc (.cells msgZ.toArray 50)) := (((Below.refl _ _).alloc (Nat.le_refl _) _).alloc (by simp) _).alloc (by simp; omega) _
 obtain ⟨X, hX⟩ : ∃ X, Hid (((w.alloc (.cells cs.toArray 37)).alloc (.cells (evC e).toArray 42)).alloc (.cells msgZ.toArray 50) = X) := ⟨_, Hh rfl⟩
 have c0 := at_of E0
 have c19 := at_of E19
 have c20 := at_of E20
 have c21 := at_of E21
 have d18 := at_of Q18
 obtain ⟨P, hP⟩ : ∃ P, Hid (packP y e = P) := ⟨_, Hh rfl⟩
 rw [hP.out]
 have PP : Hid (P = if e.kind = 2 ∧ e.fr = y.sv ∧ e.fp = 53 ∧ e.port = y.port then frameP y (decM e.data) else (Msg.zero, false)) := Hh (by rw [← hP.out]; rfl)
 clear h hip hs E0 E19 E20 E21 Q18 hP hX
 generalize frameP y (decM e.data) = F at *
 generalize e.data = dt at *
 by_cases hk : e.kind = 2
 case neg =>
  have hk' : (e.kind != 2) = true := by simpa using hk
  have HF : Hid (P = (Msg.zero, false)) := Hh (by rw [PP.out, if_neg (fun h => hk h.1)])
  clear hk PP FC EA
  generalize e.kind = kd at *
  generalize evC e = es at *
  go_enter func228, ntmps228
  go_wp2_with (refine at_op (.store 50 (.tmp 4) (.tmp 28)) rfl ?_; go_must (refine wpList_stB rfl _ _ _ rfl (w.heap.size + 1 + 1) 0 rfl msgZ rfl B4 (by have := msgZ_len; omega) msgInfo msgZ_one ?_))
  intro w8 B8 g8 _
  replace B8 : Blk w8 (w.heap.size + 1 + 1) 50 msgZ := by first | exact B8 | exact whole14 B8 (by have := msgZ_len; omega)
  have HB8 := below_grown HB g8 HB.size (by omega)
  clear g8 HB B4
  go_wp2_with fail
  refine ret_cell_tmp rfl (w.heap.size + 1 + 1) rfl B8 _ underlying50 rfl msgInfo rfl (.bool false) rfl ?_
  rw [HF.out]
  exact ⟨msgZ, rfl, MsgOwn.zero _, HB8⟩
 rw [hk] at c0
 generalize evC e = es at *
 by_cases hf : e.fr = y.sv
 case neg =>
  have HF : Hid (P = (Msg.zero, false)) := Hh (by rw [PP.out, if_neg (fun h => hf h.2.1)])
  rw [decide_eq_false hf] at EA
  clear hk hf PP FC
  generalize e.fr.cells = fc at *
  generalize y.sv.cells = sc at *
  go_enter func228, ntmps228
  go_wp2_with (first
   | (refine at_op (.load 24 (.tmp 10)) rfl ?_; go_must (refine wpList_ldG 24 (.tmp 10) rfl (by go_simp) (w.heap.size + 1) 1 rfl B3 18 (by omega) _ underlying24 rfl adInfoM _ SE.out ?_))
   | (refine at_op (.load 24 (.tmp 12)) rfl ?_; go_must (refine wpList_ldG 24 (.tmp 12) rfl (by go_simp) w.heap.size 0 rfl B2 18 (by omega) _ underlying24 rfl adInfoM _ SQ.out ?_))
   | (refine at_op (.store 50 (.tmp 4) (.tmp 28)) rfl ?_; go_must (refine wpList_stB rfl _ _ _ rfl (w.heap.size + 1 + 1) 0 rfl msgZ rfl B4 (by have := msgZ_len; omega) msgInfo msgZ_one ?_)))
  intro w8 B8 g8 _
  replace B8 : Blk w8 (w.heap.size + 1 + 1) 50 msgZ := by first | exact B8 | exact whole14 B8 (by have := msgZ_len; omega)
  have HB8 := below_grown HB g8 HB.size (by omega)
  clear g8 HB B4
  go_wp2_with fail
  refine ret_cell_tmp rfl (w.heap.size + 1 + 1) rfl B8 _ underlying50 rfl msgInfo rfl (.bool false) rfl ?_
  rw [HF.out]
  exact ⟨msgZ, rfl, MsgOwn.zero _, HB8⟩
 rw [decide_eq_true hf] at EA
 by_cases hp : e.fp = 53
 case neg =>
  have hp' : (e.fp != 53) = true := by simpa using hp
  have HF : Hid (P = (Msg.zero, false)) := Hh (by rw [PP.out, if_neg (fun h => hp h.2.2.1)])
  clear hk hf hp PP FC
  generalize e.fp = fp at *
  generalize e.fr.cells = fc at *
  generalize y.sv.cells = sc at *
  go_enter func228, ntmps228
  go_wp2_with (first
   | (refine at_op (.load 24 (.tmp 10)) rfl ?_; go_must (refine wpList_ldG 24 (.tmp 10) rfl (by go_simp) (w.heap.size + 1) 1 rfl B3 18 (by omega) _ underlying24 rfl adInfoM _ SE.out ?_))
   | (refine at_op (.load 24 (.tmp 12)) rfl ?_; go_must (refine wpList_ldG 24 (.tmp 12) rfl (by go_simp) w.heap.size 0 rfl B2 18 (by omega) _ underlying24 rfl adInfoM _ SQ.out ?_))
   | (refine at_op (.store 50 (.tmp 4) (.tmp 28)) rfl ?_; go_must (refine wpList_stB rfl _ _ _ rfl (w.heap.size + 1 + 1) 0 rfl msgZ rfl B4 (by have := msgZ_len; omega) msgInfo msgZ_one ?_)))
  intro w8 B8 g8 _
  replace B8 : Blk w8 (w.heap.size + 1 + 1) 50 msgZ := by first | exact B8 | exact whole14 B8 (by have := msgZ_len; omega)
  have HB8 := below_grown HB g8 HB.size (by omega)
  clear g8 HB B4
  go_wp2_with fail
  refine ret_cell_tmp rfl (w.heap.size + 1 + 1) rfl B8 _ underlying50 rfl msgInfo rfl (.bool false) rfl ?_
  rw [HF.out]
  exact ⟨msgZ, rfl, MsgOwn.zero _, HB8⟩
 rw [hp] at c19
 by_cases ho : e.port = y.port
 case neg =>
  have ho' : (e.port != y.port) = true := by simpa using ho
  have HF : Hid (P = (Msg.zero, false)) := Hh (by rw [PP.out, if_neg (fun h => ho h.2.2.2)])
  clear hk hf hp ho PP FC
  generalize e.port = ep at *
  generalize y.port = yp at *
  generalize e.fr.cells = fc at *
  generalize y.sv.cells = sc at *
  go_enter func228, ntmps228
  go_wp2_with (first
   | (refine at_op (.load 24 (.tmp 10)) rfl ?_; go_must (refine wpList_ldG 24 (.tmp 10) rfl (by go_simp) (w.heap.size + 1) 1 rfl B3 18 (by omega) _ underlying24 rfl adInfoM _ SE.out ?_))
   | (refine at_op (.load 24 (.tmp 12)) rfl ?_; go_must (refine wpList_ldG 24 (.tmp 12) rfl (by go_simp) w.heap.size 0 rfl B2 18 (by omega) _ underlying24 rfl adInfoM _ SQ.out ?_))
   | (refine at_op (.store 50 (.tmp 4) (.tmp 28)) rfl ?_; go_must (refine wpList_stB rfl _ _ _ rfl (w.heap.size + 1 + 1) 0 rfl msgZ rfl B4 (by have := msgZ_len; omega) msgInfo msgZ_one ?_)))
  intro w8 B8 g8 _
  replace B8 : Blk w8 (w.heap.size + 1 + 1) 50 msgZ := by first | exact B8 | exact whole14 B8 (by have := msgZ_len; omega)
  have HB8 := below_grown HB g8 HB.size (by omega)
  clear g8 HB B4
  go_wp2_with fail
  refine ret_cell_tmp rfl (w.heap.size + 1 + 1) rfl B8 _ underlying50 rfl msgInfo rfl (.bool false) rfl ?_
  rw [HF.out]
  exact ⟨msgZ, rfl, MsgOwn.zero _, HB8⟩
 rw [ho] at c20
 have HF : Hid (P = F) := Hh (by rw [PP.out, if_pos ⟨hk, hf, hp, ho⟩])
 clear hk hf hp ho PP
 generalize y.port = yp at *
 generalize e.fr.cells = fc at *
 generalize y.sv.cells = sc at *
 go_enter func228, ntmps228
 go_wp2_with (first
  | (refine at_op (.load 24 (.tmp 10)) rfl ?_; go_must (refine wpList_ldG 24 (.tmp 10) rfl (by go_simp) (w.heap.size + 1) 1 rfl B3 18 (by omega) _ underlying24 rfl adInfoM _ SE.out ?_))
  | (refine at_op (.load 24 (.tmp 12)) rfl ?_; go_must (refine wpList_ldG 24 (.tmp 12) rfl (by go_simp) w.heap.size 0 rfl B2 18 (by omega) _ underlying24 rfl adInfoM _ SQ.out ?_))
  | (refine at_op (.load 37 (.tmp 2)) rfl ?_; go_must (refine wpList_ldB rfl _ _ rfl w.heap.size 0 rfl B2 23 (by omega) _ underlying37 rfl qyInfo cs (tk0 (by omega)) ?_)))
 refine (FC.out _ HB).mono ?_
 rintro _ w5 ⟨ds, rfl, hM5, b5⟩
 have HB5 := below_then HB HB.size b5
 have B45 := B4.below b5 B4.lt
 have hdl := hM5.len
 have hd1 := Hh hM5.one
 clear b5 FC HB B2 B3 B4 c0 c19 c20 c21 d18 EA SE SQ
 go_wp2_with (refine at_op (.store 50 (.tmp 4) (.tmp 33)) rfl ?_; go_must (refine wpList_stB rfl _ _ _ rfl (w.heap.size + 1 + 1) 0 rfl ds rfl B45 (by have := msgZ_len; omega) (by rw [hdl]; exact msgInfo) hd1.out ?_))
 intro w8 B8 g8 _
 replace B8 := whole14 B8 (by have := msgZ_len; omega)
 have HB8 := below_grown HB5 g8 HB5.size (by omega)
 have hM8 := hM5.blk g8 B45
 clear g8 HB5 B45 hM5
 go_wp2_with fail
 refine ret_cell_tmp rfl (w.heap.size + 1 + 1) rfl B8 _ underlying50 rfl (by rw [hdl]; exact msgInfo) rfl (.bool F.2) rfl ?_
 rw [HF.out]
 exact ⟨ds, rfl, hM8, HB8⟩
def qyZ : List Value := [.int .i64 0, .int .u8 0, .int .u8 0, .int .u8 0, .int .u8 0, .int .u8 0, .int .u8 0, .int .u8 0, .int .u8 0, .int .u8 0, .int .u8 0, .int .u8 0, .int .u8 0, .int .u8 0, .int .u8 0, .int .u8 0, .int .u8 0, .int .i64 0, .int .i64 0, .int .i64 0, .slice none 0 0, .int .i64 0, .int .i64 0]
theorem qyZ_len : qyZ.length = 23 := rfl
theorem run_bqy16 (fam zone port id : Int) (q : Qn) (b0 b1 b2 b3 b4 b5 b6 b7 b8 b9 b10 b11 b12 b13 b14 b15 : UInt8) (A : Option Addr) (n c : Nat) (W : World) :
  (Instr.build 37 #[(0, .agg (Adr.cells ⟨fam, [b0, b1, b2, b3, b4, b5, b6, b7, b8, b9, b10, b11, b12, b13, b14, b15], zone⟩).toArray), (1, .int .i64 port), (2, .int .i64 id), (3, .agg #[.slice A n c, .int .i64 q.ty, .int .i64 q.cl])]).run prog W = .ok (.agg (qyC (.slice A n c) ⟨⟨fam, [b0, b1, b2, b3, b4, b5, b6, b7, b8, b9, b10, b11, b12, b13, b14, b15], zone⟩, port, id, q⟩).toArray) W := by
 kernel_rfl
theorem run_bqy (y : Qy) (h : y.sv.ip.length = 16) (A : Option Addr) (n c : Nat) (W : World) :
  (Instr.build 37 #[(0, .agg y.sv.cells.toArray), (1, .int .i64 y.port), (2, .int .i64 y.id), (3, .agg #[.slice A n c, .int .i64 y.q.ty, .int .i64 y.q.cl])]).run prog W = .ok (.agg (qyC (.slice A n c) y).toArray) W := by
 obtain ⟨⟨fam, ip, zone⟩, port, id, q⟩ := y
 have h' : ip.length = 16 := h
 clear h
 match ip, h' with
 | [b0, b1, b2, b3, b4, b5, b6, b7, b8, b9, b10, b11, b12, b13, b14, b15], _ => exact run_bqy16 fam zone port id q b0 b1 b2 b3 b4 b5 b6 b7 b8 b9 b10 b11 b12 b13 b14 b15 A n c W
def sv25 : Adr := ⟨4, [1, 2, 3, 4, 0, 0, 0, 0, 0, 0, 0, 0, 0, 0, 0, 0], 0⟩
def b25 : List UInt8 := [0, 7, 128, 0, 0, 1, 0, 0, 0, 0, 0, 0, 1, 97, 0, 0, 1, 0, 1]
def f25 : Ev := ⟨2, sv25, 54, 5000, b25⟩
open Go.ChangeShapes Go.WideShapes Go.ChangeAt Go.RowKit
section
variable {H : Type} {enc : TypeId × Value → H} {w : World} {cs : List Value}
end
end Go.Proofs.YthnbcmlnpdabhaaGreat
