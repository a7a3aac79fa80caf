/-
  strings.Clone.
-/
import Derived.Lib.UnsafeStr
import Derived.Test.YteimenplbanooaaGreatDoorRAKq
import Derived.Test.YteimenplbanooaaGreatDoorRALq
namespace Go.Proofs.YteimenplbanooaaGreatDoor
open _root_.Go.Proofs.Tryz
open Go.RowKit
set_option maxRecDepth 100000
set_option linter.unusedVariables false
set_option linter.unusedSimpArgs false
def Chain (w : World) : List (List UInt8) → Option Nat → Prop
 | [], o => o = none
 | t :: rest, o => ∃ (g : Nat) (next : Option Nat), o = some g ∧ t ≠ [] ∧ Blk w g 475 [.string (bs t), .pointer (next.map fun k => ⟨k, 0, none⟩)] ∧ Chain w rest next
theorem Chain.grown {w w' : World} {j : Nat} {cs : List Value} (hj : Blk w j 437 cs) (hg : w.grownBy w' (some j)) : ∀ (ts : List (List UInt8)) (o : Option Nat), Chain w ts o → Chain w' ts o := by
 intro ts
 induction ts with
 | nil => intro o h; exact h
 | cons t rest ih =>
  rintro o ⟨g, next, h1, h2, h3, h4⟩
  refine ⟨g, next, h1, h2, h3.grown hg ?_, ih next h4⟩
  rintro e
  injection e with e
  subst e
  unfold Blk at h3 hj
  rw [h3] at hj
  injection hj with hj
  injection hj with _ ht
  exact absurd ht (by decide)
def textOf (ts : List (List UInt8)) : List UInt8 := ts.reverse.flatten
def JB (pre post : List Value) (a b c d : Value) : List Value := pre ++ a :: b :: c :: d :: post
section
variable {pre post : List Value} {a b c d : Value} (h : pre.length = 26)
include h
variable {w : World} {g : Nat} {t : TypeId}
end
def JoinAt (w : World) (g : Nat) (pre post : List Value) (p : List UInt8) : Prop :=
 ∃ (last : Option Nat) (ts : List (List UInt8)) (b0 b1 : UInt8), pre.length = 26 ∧ Blk w g 437 (JB pre post (.pointer (last.map fun k => ⟨k, 0, none⟩)) (.int .i64 p.length) (.int .u8 (b0.toNat : Int)) (.int .u8 (b1.toNat : Int))) ∧
  Chain w ts last ∧ textOf ts = p ∧ (∀ x, p[0]? = some x → b0 = x) ∧ (∀ x, p[1]? = some x → b1 = x)
def wholeB (p : List UInt8) : Bool := decide (2 ≤ p.length) && decide (numB (p.take 2) ≤ p.length - 2)
def msg1 (s : List UInt8) : List UInt8 := (s.drop 2).take (numB (s.take 2))
def rest1 (s : List UInt8) : List UInt8 := s.drop (2 + numB (s.take 2))
def frF : Nat → List UInt8 → List (List UInt8) × List UInt8
 | 0, s => ([], s)
 | k + 1, s => if wholeB s then (msg1 s :: (frF k (rest1 s)).1, (frF k (rest1 s)).2) else ([], s)
def frames (s : List UInt8) : List (List UInt8) := (frF s.length s).1
def restF (s : List UInt8) : List UInt8 := (frF s.length s).2
theorem frames_no (s : List UInt8) (h : wholeB s = false) : frames s = [] ∧ restF s = s := by
 unfold frames restF
 cases s.length with
 | zero => exact ⟨rfl, rfl⟩
 | succ k => simp [frF, h]
theorem Chain.keep {w w' : World} (hk : ∀ g cs, Blk w g 475 cs → Blk w' g 475 cs) : ∀ (ts : List (List UInt8)) (o : Option Nat), Chain w ts o → Chain w' ts o := by
 intro ts
 induction ts with
 | nil => intro o h; exact h
 | cons t rest ih =>
  rintro o ⟨g, next, h1, h2, h3, h4⟩
  exact ⟨g, next, h1, h2, hk g _ h3, ih next h4⟩
theorem JoinAt.keep {w w' : World} {g : Nat} {pre post : List Value} {p : List UInt8} (hk : ∀ j t cs, t ≠ 9 → Blk w j t cs → Blk w' j t cs) (h : JoinAt w g pre post p) : JoinAt w' g pre post p := by
 obtain ⟨last, ts, b0, b1, hpl, hb, hc, r⟩ := h
 exact ⟨last, ts, b0, b1, hpl, hk _ _ _ (by decide) hb, Chain.keep (fun j cs hb => hk j _ cs (by decide) hb) _ _ hc, r⟩
theorem JoinAt.below {w w' : World} {g : Nat} {pre post : List Value} {p : List UInt8} (h : JoinAt w g pre post p) (hb : Below w.heap.size w w') : JoinAt w' g pre post p :=
 h.keep fun _ _ _ _ hj => hj.below hb hj.lt
theorem back_plain (m : Msg) (hw : ∀ r ∈ m.rrs, r.wf) :
  ((encM m false).2 = 0 ∧ (encM m true).2 = 0 ∧ (encM m true).1.length ≤ (encM m false).1.length ∧ (encM m false).1.length ≤ 65535 ∧ decM (encM m false).1 = .ok m ∧ decM (encM m true).1 = .ok m) ∨
  ((encM m false).2 ≠ 0 ∧ (encM m true).2 = 0 ∧ (encM m true).1.length ≤ 65535 ∧ decM (encM m true).1 = .ok m) ∨
  ((encM m false).2 ≠ 0 ∧ (encM m true).2 ≠ 0 ∧ (encM m true).1 = [] ∧ (encM m false).1 = []) := by
 by_cases hc : checkM m = 0
 ·
  have hle := encS_le m hw hc
  by_cases h1 : 65535 < (encS m true).1.length
  ·
   have h2 : 65535 < (encS m false).1.length := by omega
   right; right
   rw [encM_long true hc h1, encM_long false hc h2]
   exact ⟨by decide, by decide, rfl, rfl⟩
  ·
   have d1 := decM_enc m true hw hc (by omega)
   by_cases h2 : 65535 < (encS m false).1.length
   ·
    right; left
    rw [encM_ok true hc h1, encM_long false hc h2]
    exact ⟨by decide, rfl, by show (encS m true).1.length ≤ 65535; omega, d1⟩
   ·
    have d2 := decM_enc m false hw hc (by omega)
    left
    rw [encM_ok true hc h1, encM_ok false hc h2]
    exact ⟨rfl, rfl, hle, by show (encS m false).1.length ≤ 65535; omega, d2, d1⟩
 ·
  right; right
  rw [encM_bad true hc, encM_bad false hc]
  exact ⟨hc, hc, rfl, rfl⟩
def low8 (c : UInt8) : UInt8 := if 65 ≤ c.toNat ∧ c.toNat ≤ 90 then UInt8.ofNat (c.toNat + 32) else c
def lowT (l : List UInt8) : List UInt8 := l.map low8
def lowN (n : List (List UInt8)) : List (List UInt8) := n.map lowT
theorem low8_yes {c : UInt8} (h : 65 ≤ c.toNat ∧ c.toNat ≤ 90) : (low8 c).toNat = c.toNat + 32 := by
 unfold low8; rw [if_pos h, UInt8.toNat_ofNat']; omega
theorem low8_no {c : UInt8} (h : ¬ (65 ≤ c.toNat ∧ c.toNat ≤ 90)) : low8 c = c := by unfold low8; rw [if_neg h]
theorem lowT_len (l : List UInt8) : (lowT l).length = l.length := by simp [lowT]
theorem lowN_len (l : List (List UInt8)) : (lowN l).length = l.length := by simp [lowN]
theorem small_any (c : UInt8) (w : World) : Calls prog 192 #[.int .u8 (c.toNat : Int)] w (Ret (.int .u8 ((low8 c).toNat : Int)) w) := by
 have hc := c.toNat_lt
 by_cases h : 65 ≤ c.toNat ∧ c.toNat ≤ 90
 ·
  have e := low8_yes h
  rw [e]
  obtain ⟨h1, h2⟩ := h
  have h1' : (65 : Int) ≤ c.toNat := by omega
  have h2' : (c.toNat : Int) ≤ 90 := by omega
  clear e h1 h2
  generalize c.toNat = k at *
  go_enter func192, ntmps192
  go_wp2_with fail
  go_ret
  exact Ret.mk (ret_int (by omega)) rfl
 ·
  rw [low8_no h]
  by_cases h1 : 65 ≤ c.toNat
  ·
   have h2 : ¬ c.toNat ≤ 90 := fun h2 => h ⟨h1, h2⟩
   have h1' : (65 : Int) ≤ c.toNat := by omega
   have h2' : ¬ (c.toNat : Int) ≤ 90 := by omega
   clear h h1 h2
   generalize c.toNat = k at *
   go_enter func192, ntmps192
   go_wp2_with fail
   go_ret
   exact Ret.mk rfl rfl
  ·
   have h1' : ¬ (65 : Int) ≤ c.toNat := by omega
   clear h h1
   generalize c.toNat = k at *
   go_enter func192, ntmps192
   go_wp2_with fail
   go_ret
   exact Ret.mk rfl rfl
theorem lowT_at {a b : List UInt8} {k : Nat} (ha : k < a.length) (hb : k < b.length) (h : low8 a[k] ≠ low8 b[k]) : lowT a ≠ lowT b := by
 intro e
 have := congrArg (fun l : List UInt8 => l[k]?) e
 simp [lowT, ha, hb] at this
 exact h this
theorem lowT_eq {a b : List UInt8} (hl : a.length = b.length) (h : ∀ i (ha : i < a.length) (hb : i < b.length), low8 a[i] = low8 b[i]) : lowT a = lowT b := by
 refine List.ext_getElem (by simp [lowT, hl]) fun i h1 h2 => ?_
 simp only [lowT, List.getElem_map]
 exact h i (by simpa [lowT] using h1) (by simpa [lowT] using h2)
set_option maxHeartbeats 2000000 in
theorem asame_any (a b : List UInt8) (w : World) (ha : a.length ≤ maxLen) (hb : b.length ≤ maxLen) :
  Calls prog 308 #[.string (bs a), .string (bs b)] w (RetB (.bool (decide (lowT a = lowT b))) w) := by
 unfold maxLen at ha hb
 by_cases hl : a.length = b.length
 case neg =>
  have hd : decide (lowT a = lowT b) = false := decide_eq_false (fun e => hl (by rw [← lowT_len a, ← lowT_len b, e]))
  have hl' : ((a.length : Int) != (b.length : Int)) = true := by simp; omega
  rw [hd]
  clear hd hl
  go_enter func308, ntmps308
  go_wp2_with fail
  go_ret
  exact RetB.mk rfl (Below.refl _ _)
 have hl' : ((a.length : Int) != (b.length : Int)) = false := by simp; omega
 have HL := Hh hl
 obtain ⟨q, hqq⟩ : ∃ q, Hid (decide (lowT a = lowT b) = q) := ⟨_, Hh rfl⟩
 rw [hqq.out]
 clear hl
 go_enter func308, ntmps308
 go_wp2_with fail
 go_loopw [13] (fun iv wr => ∃ k : Nat, k ≤ a.length ∧ iv = .int .i64 k ∧ Hid (∀ i (h1 : i < a.length) (h2 : i < b.length), i < k → low8 a[i] = low8 b[i]) ∧ Below w.heap.size w wr) (fun iv _ => a.length - (intOf iv).toNat)
 case atStart => exact ⟨0, Nat.zero_le _, rfl, Hh (fun i _ _ h => absurd h (by omega)), Below.refl _ _⟩
 obtain ⟨k, hk, rfl, HE, hB⟩ := hrel
 by_cases hlt : k < a.length
 case pos =>
  have hlt' : (k : Int) < a.length := by omega
  have hlb : k < b.length := by have := HL.out; omega
  have S1 := fun w => small_any a[k] w
  have S2 := fun w => small_any b[k] w
  obtain ⟨x, hx⟩ : ∃ x : Nat, Hid ((low8 a[k]).toNat = x) := ⟨_, Hh rfl⟩
  obtain ⟨y, hy⟩ : ∃ y : Nat, Hid ((low8 b[k]).toNat = y) := ⟨_, Hh rfl⟩
  simp only [hx.out] at S1
  simp only [hy.out] at S2
  have HS1 := Hh S1
  have HS2 := Hh S2
  clear S1 S2
  by_cases hxy : x = y
  ·
   subst hxy
   go_wp2_with fail
   go_quiet ((go_at_call 192; (first | with_reducible exact Ret.quiet (HS1.out _) | with_reducible exact Ret.quiet (HS2.out _))))
   go_wp2_with fail
   go_roundw
   case rel => exact ⟨k + 1, by omega, by go_num, Hh (fun i h1 h2 h3 => by
    by_cases hi : i = k
    ·
     subst hi; exact UInt8.toNat_inj.1 (hx.out.trans hy.out.symm)
    ·
     exact HE.out i h1 h2 (by omega)), below_drewN hB _⟩
   case measure => simp [intOf]; omega
  ·
   obtain rfl : q = false := by
    rw [← hqq.out]
    refine decide_eq_false (lowT_at hlt hlb (fun e => hxy ?_))
    rw [← hx.out, ← hy.out, e]
   have hne : ((x : Int) != (y : Int)) = true := by simp; omega
   clear hxy hqq
   go_wp2_with fail
   go_quiet ((go_at_call 192; (first | with_reducible exact Ret.quiet (HS1.out _) | with_reducible exact Ret.quiet (HS2.out _))))
   go_wp2_with fail
   go_ret
   exact RetB.mk rfl (below_drewN hB _)
 obtain rfl : k = a.length := by omega
 have hlt' : ¬ (a.length : Int) < a.length := by omega
 obtain rfl : q = true := by
  rw [← hqq.out]
  exact decide_eq_true (lowT_eq HL.out (fun i h1 h2 => HE.out i h1 h2 h1))
 clear HE hqq hlt hk
 go_wp2_with fail
 go_ret
 exact RetB.mk rfl hB
theorem lowN_at {a b : List (List UInt8)} {k : Nat} (ha : k < a.length) (hb : k < b.length) (h : lowT a[k] ≠ lowT b[k]) : lowN a ≠ lowN b := by
 intro e
 have := congrArg (fun l : List (List UInt8) => l[k]?) e
 simp [lowN, ha, hb] at this
 exact h this
theorem lowN_eq {a b : List (List UInt8)} (hl : a.length = b.length) (h : ∀ i (ha : i < a.length) (hb : i < b.length), lowT a[i] = lowT b[i]) : lowN a = lowN b := by
 refine List.ext_getElem (by simp [lowN, hl]) fun i h1 h2 => ?_
 simp only [lowN, List.getElem_map]
 exact h i (by simpa [lowN] using h1) (by simpa [lowN] using h2)
set_option maxHeartbeats 1000000 in
theorem dsame_any (A B : Option Addr) (a b : List (List UInt8)) (ca cb : Nat) (w : World) (hA : NmR w A ca a) (hB : NmR w B cb b) :
  Calls prog 278 #[.slice A a.length ca, .slice B b.length cb] w (RetB (.bool (decide (lowN a = lowN b))) w) := by
 obtain ⟨tA, cA, lA, mA⟩ := hA
 obtain ⟨tB, cB, lB, mB⟩ := hB
 by_cases hl : a.length = b.length
 case neg =>
  have hd : decide (lowN a = lowN b) = false := decide_eq_false (fun e => hl (by rw [← lowN_len a, ← lowN_len b, e]))
  have hl' : ((a.length : Int) != (b.length : Int)) = true := by simp; omega
  rw [hd]
  clear hd hl
  go_enter func278, ntmps278
  go_wp2_with fail
  go_ret
  exact RetB.mk rfl (Below.refl _ _)
 have hl' : ((a.length : Int) != (b.length : Int)) = false := by simp; omega
 have HL := Hh hl
 obtain ⟨q, hqq⟩ : ∃ q, Hid (decide (lowN a = lowN b) = q) := ⟨_, Hh rfl⟩
 rw [hqq.out]
 clear hl
 go_enter func278, ntmps278
 go_wp2_with fail
 go_loopw [14] (fun iv wr => ∃ k : Nat, k ≤ a.length ∧ iv = .int .i64 k ∧ Hid (∀ i (h1 : i < a.length) (h2 : i < b.length), i < k → lowT a[i] = lowT b[i]) ∧ Below w.heap.size w wr) (fun iv _ => a.length - (intOf iv).toNat)
 case atStart => exact ⟨0, Nat.zero_le _, rfl, Hh (fun i _ _ h => absurd h (by omega)), Below.refl _ _⟩
 obtain ⟨k, hk, rfl, HE, hB⟩ := hrel
 by_cases hlt : k < a.length
 case pos =>
  have hlt' : (k : Int) < a.length := by omega
  have hlb : k < b.length := by have := HL.out; omega
  have hlb' : (k : Int) < b.length := by omega
  obtain ⟨ba, oa, rfl, la, xa⟩ := tA (by omega)
  obtain ⟨bb, ob, rfl, lb, xb⟩ := tB (by omega)
  have c1 : wr.cell? ⟨ba, oa + k, none⟩ = some (.string (bs a[k])) := (hB.cell (p := ⟨ba, oa + k, none⟩) la).trans (xa k hlt)
  have c2 : wr.cell? ⟨bb, ob + k, none⟩ = some (.string (bs b[k])) := (hB.cell (p := ⟨bb, ob + k, none⟩) lb).trans (xb k hlb)
  have S := Hh (fun w => asame_any a[k] b[k] w (by have := mA _ (List.getElem_mem hlt); simp only [maxLen]; omega) (by have := mB _ (List.getElem_mem hlb); simp only [maxLen]; omega))
  obtain ⟨s, hs⟩ : ∃ s, Hid (decide (lowT a[k] = lowT b[k]) = s) := ⟨_, Hh rfl⟩
  rw [hs.out] at S
  clear xa xb mA mB
  go_wp2_with fail
  refine (S.out _).mono ?_
  rintro _ w1 ⟨rfl, b1⟩
  have HB1 := below_then hB hB.size b1
  clear b1 S c1 c2
  cases s with
  | false =>
   obtain rfl : q = false := by
    rw [← hqq.out]
    exact decide_eq_false (lowN_at hlt hlb (of_decide_eq_false hs.out))
   clear hqq hs
   go_wp2_with fail
   go_ret
   exact RetB.mk rfl HB1
  | true =>
   go_wp2_with fail
   go_roundw
   case rel => exact ⟨k + 1, by omega, by go_num, Hh (fun i h1 h2 h3 => by
    by_cases hi : i = k
    ·
     subst hi; exact of_decide_eq_true hs.out
    ·
     exact HE.out i h1 h2 (by omega)), HB1⟩
   case measure => simp [intOf]; omega
 obtain rfl : k = a.length := by omega
 have hlt' : ¬ (a.length : Int) < a.length := by omega
 obtain rfl : q = true := by
  rw [← hqq.out]
  exact decide_eq_true (lowN_eq HL.out (fun i h1 h2 => HE.out i h1 h2 h1))
 clear HE hqq hlt hk tA tB mA mB
 go_wp2_with fail
 go_ret
 exact RetB.mk rfl hB
structure Qy where
 sv : Adr
 port : Int
 id : Int
 q : Qn
def qyC (vn : Value) (y : Qy) : List Value := y.sv.cells ++ [.int .i64 y.port, .int .i64 y.id, vn, .int .i64 y.q.ty, .int .i64 y.q.cl]
structure QyIs (w : World) (cs : List Value) (y : Qy) (A : Option Addr) (c : Nat) : Prop where
 hcs : cs = qyC (.slice A y.q.name.length c) y
 ip : y.sv.ip.length = 16
 nm : NmR w A c y.q.name
section
variable {vn : Value} {y : Qy}
theorem qyC_len (h : y.sv.ip.length = 16) : (qyC vn y).length = 23 := by simp [qyC, y.sv.cells_len h]
theorem qyC_ad (h : y.sv.ip.length = 16) : ((qyC vn y).drop 0).take 18 = y.sv.cells := by rw [List.drop_zero]; unfold qyC; exact List.take_left' (y.sv.cells_len h)
theorem qyC_at (h : y.sv.ip.length = 16) (k : Nat) : (qyC vn y)[18 + k]? = [Value.int .i64 y.port, .int .i64 y.id, vn, .int .i64 y.q.ty, .int .i64 y.q.cl][k]? := by
 unfold qyC
 rw [List.getElem?_append_right (by rw [y.sv.cells_len h]; omega), y.sv.cells_len h, Nat.add_sub_cancel_left]
theorem qyC_q (h : y.sv.ip.length = 16) : ((qyC vn y).drop 20).take 3 = qC vn y.q := by
 have e : (qyC vn y).drop 20 = (([Value.int .i64 y.port, .int .i64 y.id, vn, .int .i64 y.q.ty, .int .i64 y.q.cl] : List Value)).drop 2 := by
  unfold qyC
  rw [show (20 : Nat) = y.sv.cells.length + 2 by rw [y.sv.cells_len h], List.drop_append]
  simp
 rw [e]; rfl
theorem qyC_one (h : vn.oneCell' = true) : ∀ v ∈ qyC vn y, v.oneCell' = true := by
 intro v hv
 rcases List.mem_append.1 hv with hv | hv
 ·
  exact y.sv.cells_one v hv
 ·
  simp only [List.mem_cons, List.not_mem_nil, or_false] at hv
  rcases hv with rfl | rfl | rfl | rfl | rfl <;> first | rfl | exact h
end
def fitQ (x y : Qn) : Bool := decide (x.ty = y.ty) && (decide (x.cl = y.cl) && decide (lowN x.name = lowN y.name))
def replyB (y : Qy) (m : Msg) : Bool := m.hd.qr && (decide (m.hd.op = 0) && (decide (m.hd.id = y.id) && match m.qs with
 | [x] => fitQ x y.q
 | _ => false))
def frameP (y : Qy) (o : Except Int Msg) : Msg × Bool := match o with
 | .ok m => if replyB y m then (m, true) else (Msg.zero, false)
 | .error _ => (Msg.zero, false)
theorem qyInfo : (prog.info? 328).map (·.size) = some 23 := by kernel_rfl
structure Ev where
 kind : Int
 fr : Adr
 fp : Int
 port : Int
 data : List UInt8
theorem adInfoM : (prog.info? 24).map (·.size) = some 18 := by kernel_rfl
def qyZ : List Value := [.int .i64 0, .int .u8 0, .int .u8 0, .int .u8 0, .int .u8 0, .int .u8 0, .int .u8 0, .int .u8 0, .int .u8 0, .int .u8 0, .int .u8 0, .int .u8 0, .int .u8 0, .int .u8 0, .int .u8 0, .int .u8 0, .int .u8 0, .int .i64 0, .int .i64 0, .int .i64 0, .slice none 0 0, .int .i64 0, .int .i64 0]
theorem qyZ_len : qyZ.length = 23 := rfl
theorem run_bqy16 (fam zone port id : Int) (q : Qn) (b0 b1 b2 b3 b4 b5 b6 b7 b8 b9 b10 b11 b12 b13 b14 b15 : UInt8) (A : Option Addr) (n c : Nat) (W : World) :
  (Instr.build 328 #[(0, .agg (Adr.cells ⟨fam, [b0, b1, b2, b3, b4, b5, b6, b7, b8, b9, b10, b11, b12, b13, b14, b15], zone⟩).toArray), (1, .int .i64 port), (2, .int .i64 id), (3, .agg #[.slice A n c, .int .i64 q.ty, .int .i64 q.cl])]).run prog W = .ok (.agg (qyC (.slice A n c) ⟨⟨fam, [b0, b1, b2, b3, b4, b5, b6, b7, b8, b9, b10, b11, b12, b13, b14, b15], zone⟩, port, id, q⟩).toArray) W := by
 kernel_rfl
theorem run_bqy (y : Qy) (h : y.sv.ip.length = 16) (A : Option Addr) (n c : Nat) (W : World) :
  (Instr.build 328 #[(0, .agg y.sv.cells.toArray), (1, .int .i64 y.port), (2, .int .i64 y.id), (3, .agg #[.slice A n c, .int .i64 y.q.ty, .int .i64 y.q.cl])]).run prog W = .ok (.agg (qyC (.slice A n c) y).toArray) W := by
 obtain ⟨⟨fam, ip, zone⟩, port, id, q⟩ := y
 have h' : ip.length = 16 := h
 clear h
 match ip, h' with
 | [b0, b1, b2, b3, b4, b5, b6, b7, b8, b9, b10, b11, b12, b13, b14, b15], _ => exact run_bqy16 fam zone port id q b0 b1 b2 b3 b4 b5 b6 b7 b8 b9 b10 b11 b12 b13 b14 b15 A n c W
theorem streamPut_ok (s : List UInt8) (w : World) (h : s.length ≤ 65535) : Calls prog 332 #[.string (bs s)] w (RetB (.tuple #[.string (bs (putB 2 s.length ++ s)), .int .i64 0]) w) := by
 have h' : (s.length : Int) ≤ 65535 := by omega
 have hl := putB_length 2 (s.length : Int)
 go_enter func332, ntmps332
 go_wp2_with fail
 refine (put_any _ _ _).mono ?_
 rintro e w1 ⟨rfl, b1⟩
 rw [show hw 2 = 2 from rfl]
 generalize putB 2 (s.length : Int) = p at *
 have hp : p.length ≤ 2 := by omega
 clear hl
 go_wp2_with fail
 go_ret2
 exact RetB.mk rfl b1
def sv25 : Adr := ⟨4, [1, 2, 3, 4, 0, 0, 0, 0, 0, 0, 0, 0, 0, 0, 0, 0], 0⟩
def b25 : List UInt8 := [0, 7, 128, 0, 0, 1, 0, 0, 0, 0, 0, 0, 1, 97, 0, 0, 1, 0, 1]
def f25 : Ev := ⟨2, sv25, 54, 5000, b25⟩
open Go.ChangeShapes Go.WideShapes Go.ChangeAt Go.RowKit
section
variable {H : Type} {enc : TypeId × Value → H} {w : World} {cs : List Value}
end
end Go.Proofs.YteimenplbanooaaGreatDoor
