/-
  Layer 15 (stream): the Joiner: what it keeps, and whether a frame is whole.
-/
import Derived.Test.YtokcfkfkpcgliaaMem
namespace Go.Proofs.Ytokcfkfkpcgliaa
open Go.RowKit
set_option maxRecDepth 100000

/-- The pieces that came, the last one first. -/
def Chain (w : World) : List (List UInt8) → Option Nat → Prop
  | [], o => o = none
  | t :: rest, o => ∃ (g : Nat) (next : Option Nat), o = some g ∧ t ≠ [] ∧ Blk w g 114 [.string (bs t), .pointer (next.map fun k => ⟨k, 0, none⟩)] ∧ Chain w rest next
theorem Chain.grown {w w' : World} {j : Nat} {cs : List Value} (hj : Blk w j 43 cs) (hg : w.grownBy w' (some j)) : ∀ (ts : List (List UInt8)) (o : Option Nat), Chain w ts o → Chain w' ts o := by
  intro ts
  induction ts with
  | nil => intro o h; exact h
  | cons t rest ih =>
    rintro o ⟨g, next, h1, h2, h3, h4⟩
    refine ⟨g, next, h1, h2, h3.grown hg ?_, ih next h4⟩
    rintro e
    injection e with e
    subst e
    unfold Blk at h3 hj
    rw [h3] at hj
    injection hj with hj
    injection hj with _ ht
    exact absurd ht (by decide)
theorem Chain.set {w : World} {j : Nat} {cs : List Value} (hj : Blk w j 43 cs) (i : Nat) (u : Value) (ts : List (List UInt8)) (o : Option Nat) (h : Chain w ts o) : Chain (w.setCell ⟨j, i, none⟩ u) ts o :=
  Chain.grown hj (grown_set (World.grownBy.refl _ _) i u) ts o h
theorem Chain.alloc {w : World} (x : Obj) : ∀ (ts : List (List UInt8)) (o : Option Nat), Chain w ts o → Chain (w.alloc x) ts o := by
  intro ts
  induction ts with
  | nil => intro o h; exact h
  | cons t rest ih =>
    rintro o ⟨g, next, h1, h2, h3, h4⟩
    exact ⟨g, next, h1, h2, h3.alloc x, ih next h4⟩
theorem Chain.drew {w : World} : ∀ (ts : List (List UInt8)) (o : Option Nat), Chain w ts o → Chain w.drew ts o := by
  intro ts
  induction ts with
  | nil => intro o h; exact h
  | cons t rest ih =>
    rintro o ⟨g, next, h1, h2, h3, h4⟩
    exact ⟨g, next, h1, h2, h3.drew, ih next h4⟩
/-- The text of all pieces. -/
def textOf (ts : List (List UInt8)) : List UInt8 := ts.reverse.flatten
theorem textOf_cons (t : List UInt8) (ts : List (List UInt8)) : textOf (t :: ts) = textOf ts ++ t := by simp [textOf]

/-- A Joiner that has these octets. -/
def JoinAt (w : World) (g : Nat) (p : List UInt8) : Prop :=
  ∃ (last : Option Nat) (ts : List (List UInt8)) (b0 b1 : UInt8), Blk w g 43 [.pointer (last.map fun k => ⟨k, 0, none⟩), .int .i64 p.length, .int .u8 (b0.toNat : Int), .int .u8 (b1.toNat : Int)] ∧
    Chain w ts last ∧ textOf ts = p ∧ (∀ x, p[0]? = some x → b0 = x) ∧ (∀ x, p[1]? = some x → b1 = x)
/-- A call on a Joiner: it returns v; the Joiner has p now; nothing else that was there has turned. -/
def JoinRet (v : Value) (g : Nat) (p : List UInt8) (w : World) (e : Ending) (w' : World) : Prop := e = .returned v ∧ JoinAt w' g p ∧ w.grownBy w' (some g)

theorem joinLeft_any (g : Nat) (p : List UInt8) (w : World) (h : JoinAt w g p) : Calls Try.prog 31 #[.pointer (some ⟨g, 0, none⟩)] w (Ret (.int .i64 p.length) w) := by
  obtain ⟨last, ts, b0, b1, hb, _⟩ := h
  have c1 := hb.cell_ 1 rfl
  go_enter Try.func31, Try.ntmps31
  go_wp2
  go_ret
  exact Ret.mk rfl rfl
theorem joinLeft_nil (w : World) : Calls Try.prog 31 #[.pointer none] w (Ret (.int .i64 0) w) := by
  go_enter Try.func31, Try.ntmps31
  go_wp2
  go_ret
  exact Ret.mk rfl rfl

/-- What keep leaves. -/
theorem keep_nil (g : Nat) (p : List UInt8) (w : World) (h : JoinAt w g p) : Calls Try.prog 55 #[.pointer (some ⟨g, 0, none⟩), .string (bs [])] w (JoinRet (.tuple #[]) g (p ++ []) w) := by
  go_enter Try.func55, Try.ntmps55
  go_wp2
  refine bodyPost_ret (results_none rfl _ _ _) rfl ?_
  exact ⟨rfl, by simpa using h, World.grownBy.refl _ _⟩

theorem joined {w W : World} {g : Nat} {p s : List UInt8} {last : Option Nat} {ts : List (List UInt8)} {b0 b1 : UInt8} (hk : Blk W g 43 [.pointer (last.map fun k => ⟨k, 0, none⟩), .int .i64 p.length, .int .u8 (b0.toNat : Int), .int .u8 (b1.toNat : Int)])
    (hc : Chain W ts last) (ht : textOf ts = p) (hs : s ≠ []) (h0 : ∀ x, (p ++ s)[0]? = some x → b0 = x) (h1 : ∀ x, (p ++ s)[1]? = some x → b1 = x) (hg : w.grownBy W (some g)) (n : Int) (hn : n = (p.length : Int) + s.length) :
    JoinRet (.tuple #[]) g (p ++ s) w (.returned (.tuple #[])) (((W.setCell ⟨g, 0, none⟩ (.pointer (some ⟨W.heap.size, 0, none⟩))).setCell ⟨g, 1, none⟩ (.int .i64 n)).alloc (.cells #[.string (bs s), .pointer (last.map fun k => ⟨k, 0, none⟩)] 114)) := by
  subst hn
  have hk1 := (hk.set 0 (.pointer (some ⟨W.heap.size, 0, none⟩))).set 1 (.int .i64 (p.length + s.length))
  refine ⟨rfl, ⟨some W.heap.size, s :: ts, b0, b1, ?_, ⟨W.heap.size, last, rfl, hs, ?_, ?_⟩, ?_, h0, h1⟩, ?_⟩
  · have := hk1.alloc (.cells #[.string (bs s), .pointer (last.map fun k => ⟨k, 0, none⟩)] 114)
    simpa using this
  · exact Blk.new' _ _ [.string (bs s), .pointer (last.map fun k => ⟨k, 0, none⟩)] _ (by simp)
  · exact Chain.alloc _ _ _ (Chain.set (hk.set 0 _) 1 _ _ _ (Chain.set hk 0 _ _ _ hc))
  · rw [textOf_cons, ht]
  · exact grown_alloc (grown_set (grown_set hg 0 _) 1 _) _

theorem keep_two (g : Nat) (p s : List UInt8) (w : World) (h : JoinAt w g p) (hp : 2 ≤ p.length) (hs : s ≠ []) (hb : p.length + s.length ≤ 281474976710656) :
    Calls Try.prog 55 #[.pointer (some ⟨g, 0, none⟩), .string (bs s)] w (JoinRet (.tuple #[]) g (p ++ s) w) := by
  obtain ⟨last, ts, b0, b1, hk, hc, ht, h0, h1⟩ := h
  have c0 := hk.cell_ 0 rfl
  have c1 := hk.cell_ 1 rfl
  have f0 := hk.frozen 0
  have f1 := hk.frozen 1
  have hse : (s == []) = false := by simpa using hs
  have hp' : ¬ (p.length : Int) < 2 := by omega
  have hgl := hk.lt
  go_enter Try.func55, Try.ntmps55
  go_wp2_with fail
  refine wp_loop_rounds 1 ?_
  rw [rounds_succ]
  go_wp2_with fail
  go_end0
  exact joined hk hc ht hs (fun x hx => h0 x (by rwa [List.getElem?_append_left (by omega)] at hx)) (fun x hx => h1 x (by rwa [List.getElem?_append_left (by omega)] at hx)) (World.grownBy.refl _ _) _ rfl

theorem keep_one (g : Nat) (c a : UInt8) (s : List UInt8) (w : World) (h : JoinAt w g [c]) (hb : s.length + 2 ≤ 281474976710656) :
    Calls Try.prog 55 #[.pointer (some ⟨g, 0, none⟩), .string (bs (a :: s))] w (JoinRet (.tuple #[]) g ([c] ++ (a :: s)) w) := by
  obtain ⟨last, ts, b0, b1, hk, hc, ht, h0, h1⟩ := h
  have c0 := hk.cell_ 0 rfl
  have c1 := hk.cell_ 1 rfl
  have c3 := hk.cell_ 3 rfl
  have f3 := hk.frozen 3
  have hgl := hk.lt
  rw [show (([c].length : Nat) : Int) = 1 from rfl] at c1
  go_enter Try.func55, Try.ntmps55
  go_wp2_with fail
  refine wp_loop_rounds 2 ?_
  rw [rounds_succ]
  go_wp2_with fail
  go_region
  go_wp2_with fail
  obtain ⟨W, hW⟩ : ∃ W, W = (w.setCell ⟨g, 3, none⟩ (.int .u8 (a.toNat : Int))).drew := ⟨_, rfl⟩
  rw [← hW]
  have hk1 : Blk W g 43 [.pointer (last.map fun k => ⟨k, 0, none⟩), .int .i64 ([c].length : Nat), .int .u8 (b0.toNat : Int), .int .u8 (a.toNat : Int)] := hW ▸ (hk.set 3 (.int .u8 (a.toNat : Int))).drew
  have hc1 : Chain W ts last := hW ▸ Chain.drew _ _ (Chain.set hk 3 _ _ _ hc)
  have hg1 : w.grownBy W (some g) := hW ▸ grown_drew (grown_set (World.grownBy.refl _ _) 3 _)
  clear hW c0 c1 c3 f3 hgl hk hc
  have c0 := hk1.cell_ 0 rfl
  have c1 := hk1.cell_ 1 rfl
  have f0 := hk1.frozen 0
  have f1 := hk1.frozen 1
  have hgl := hk1.lt
  rw [show (([c].length : Nat) : Int) = 1 from rfl] at c1
  rw [rounds_succ]
  go_wp2_with fail
  go_end0
  exact joined (s := a :: s) hk1 hc1 ht (by simp) (fun x hx => h0 x (by simpa using hx)) (fun x hx => by simpa using hx) hg1 _ (by simp)

theorem keep_zero1 (g : Nat) (a : UInt8) (w : World) (h : JoinAt w g []) :
    Calls Try.prog 55 #[.pointer (some ⟨g, 0, none⟩), .string (bs [a])] w (JoinRet (.tuple #[]) g ([] ++ [a]) w) := by
  obtain ⟨last, ts, b0, b1, hk, hc, ht, h0, h1⟩ := h
  have c0 := hk.cell_ 0 rfl
  have c1 := hk.cell_ 1 rfl
  have c2 := hk.cell_ 2 rfl
  have f2 := hk.frozen 2
  have hgl := hk.lt
  rw [show ((([] : List UInt8).length : Nat) : Int) = 0 from rfl] at c1
  go_enter Try.func55, Try.ntmps55
  go_wp2_with fail
  refine wp_loop_rounds 2 ?_
  rw [rounds_succ]
  go_wp2_with fail
  go_region
  go_wp2_with fail
  obtain ⟨W, hW⟩ : ∃ W, W = (w.setCell ⟨g, 2, none⟩ (.int .u8 (a.toNat : Int))).drew := ⟨_, rfl⟩
  rw [← hW]
  have hk1 : Blk W g 43 [.pointer (last.map fun k => ⟨k, 0, none⟩), .int .i64 (([] : List UInt8).length : Nat), .int .u8 (a.toNat : Int), .int .u8 (b1.toNat : Int)] := hW ▸ (hk.set 2 (.int .u8 (a.toNat : Int))).drew
  have hc1 : Chain W ts last := hW ▸ Chain.drew _ _ (Chain.set hk 2 _ _ _ hc)
  have hg1 : w.grownBy W (some g) := hW ▸ grown_drew (grown_set (World.grownBy.refl _ _) 2 _)
  clear hW c0 c1 c2 f2 hgl hk hc
  have c0 := hk1.cell_ 0 rfl
  have c1 := hk1.cell_ 1 rfl
  have f0 := hk1.frozen 0
  have f1 := hk1.frozen 1
  have hgl := hk1.lt
  rw [show ((([] : List UInt8).length : Nat) : Int) = 0 from rfl] at c1
  rw [rounds_succ]
  go_wp2_with fail
  go_end0
  exact joined (s := [a]) hk1 hc1 ht (by simp) (fun x hx => by simpa using hx) (fun x hx => by simp at hx) hg1 _ (by simp)

theorem keep_zero2 (g : Nat) (a b : UInt8) (s : List UInt8) (w : World) (h : JoinAt w g []) (hb : s.length + 2 ≤ 281474976710656) :
    Calls Try.prog 55 #[.pointer (some ⟨g, 0, none⟩), .string (bs (a :: b :: s))] w (JoinRet (.tuple #[]) g ([] ++ (a :: b :: s)) w) := by
  obtain ⟨last, ts, b0, b1, hk, hc, ht, h0, h1⟩ := h
  have c0 := hk.cell_ 0 rfl
  have c1 := hk.cell_ 1 rfl
  have c2 := hk.cell_ 2 rfl
  have f2 := hk.frozen 2
  have hgl := hk.lt
  rw [show ((([] : List UInt8).length : Nat) : Int) = 0 from rfl] at c1
  go_enter Try.func55, Try.ntmps55
  go_wp2_with fail
  refine wp_loop_rounds 3 ?_
  rw [rounds_succ]
  go_wp2_with fail
  go_region
  go_wp2_with fail
  obtain ⟨W, hW⟩ : ∃ W, W = (w.setCell ⟨g, 2, none⟩ (.int .u8 (a.toNat : Int))).drew := ⟨_, rfl⟩
  rw [← hW]
  have hk1 : Blk W g 43 [.pointer (last.map fun k => ⟨k, 0, none⟩), .int .i64 (([] : List UInt8).length : Nat), .int .u8 (a.toNat : Int), .int .u8 (b1.toNat : Int)] := hW ▸ (hk.set 2 (.int .u8 (a.toNat : Int))).drew
  have hc1 : Chain W ts last := hW ▸ Chain.drew _ _ (Chain.set hk 2 _ _ _ hc)
  have hg1 : w.grownBy W (some g) := hW ▸ grown_drew (grown_set (World.grownBy.refl _ _) 2 _)
  clear hW c0 c1 c2 f2 hgl hk hc
  have c0 := hk1.cell_ 0 rfl
  have c1 := hk1.cell_ 1 rfl
  have f0 := hk1.frozen 0
  have f1 := hk1.frozen 1
  have hgl := hk1.lt
  have c3 := hk1.cell_ 3 rfl
  have f3 := hk1.frozen 3
  rw [show ((([] : List UInt8).length : Nat) : Int) = 0 from rfl] at c1
  rw [rounds_succ]
  go_wp2_with fail
  go_region
  go_wp2_with fail
  obtain ⟨V, hV⟩ : ∃ V, V = (W.setCell ⟨g, 3, none⟩ (.int .u8 (b.toNat : Int))).drew := ⟨_, rfl⟩
  rw [← hV]
  have hk2 : Blk V g 43 [.pointer (last.map fun k => ⟨k, 0, none⟩), .int .i64 (([] : List UInt8).length : Nat), .int .u8 (a.toNat : Int), .int .u8 (b.toNat : Int)] := hV ▸ (hk1.set 3 (.int .u8 (b.toNat : Int))).drew
  have hc2 : Chain V ts last := hV ▸ Chain.drew _ _ (Chain.set hk1 3 _ _ _ hc1)
  have hg2 : w.grownBy V (some g) := hV ▸ grown_drew (grown_set hg1 3 _)
  clear hV c0 c1 c3 f0 f1 f3 hgl hk1 hc1 hg1
  have c0 := hk2.cell_ 0 rfl
  have c1 := hk2.cell_ 1 rfl
  have f0 := hk2.frozen 0
  have f1 := hk2.frozen 1
  have hgl := hk2.lt
  rw [show ((([] : List UInt8).length : Nat) : Int) = 0 from rfl] at c1
  rw [rounds_succ]
  go_wp2_with fail
  go_end0
  exact joined (s := a :: b :: s) hk2 hc2 ht (by simp) (fun x hx => by simpa using hx) (fun x hx => by simpa using hx) hg2 _ (by simp)

theorem keep_any (g : Nat) (p s : List UInt8) (w : World) (h : JoinAt w g p) (hb : p.length + s.length ≤ 281474976710656) :
    Calls Try.prog 55 #[.pointer (some ⟨g, 0, none⟩), .string (bs s)] w (JoinRet (.tuple #[]) g (p ++ s) w) := by
  rcases s with _ | ⟨a, s⟩
  · exact keep_nil g p w h
  · rcases p with _ | ⟨c, p⟩
    · rcases s with _ | ⟨b, s⟩
      · exact keep_zero1 g a w h
      · exact keep_zero2 g a b s w h (by simpa using hb)
    · rcases p with _ | ⟨d, p⟩
      · exact keep_one g c a s w h (by simp at hb; omega)
      · exact keep_two g _ _ w h (by simp) (by simp) hb
end Go.Proofs.Ytokcfkfkpcgliaa
