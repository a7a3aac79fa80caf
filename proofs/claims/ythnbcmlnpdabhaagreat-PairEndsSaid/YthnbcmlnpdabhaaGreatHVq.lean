/-
  strings.Clone.
-/
import Derived.Test.YthnbcmlnpdabhaaGreatGAq
import Derived.Lib.UnsafeStr
namespace Go.Proofs.YthnbcmlnpdabhaaGreat
open _root_.Go.Proofs.Tryz
open Go.RowKit
set_option maxRecDepth 100000
set_option linter.unusedVariables false
set_option linter.unusedSimpArgs false
theorem sclone_any (l : List UInt8) (w : World) (hlim : l.length ≤ 281474976710656) : Calls prog 212 #[.string (bs l)] w (RetB (.string (bs l)) w) := by
 by_cases h0 : l = []
 ·
  subst h0
  go_enter func212, ntmps212
  go_wp2
  go_ret
  exact RetB.mk rfl (Below.refl _ _)
 ·
  have hpos : 0 < l.length := List.length_pos_iff.2 h0
  have hpos' : ((l.length : Int) == 0) = false := by simp; omega
  have hmk := run_mkbytes l.length hlim
  have hb := Blk.new w 5 (octs (List.replicate l.length 0))
  have hcp := run_copy_str _ w.heap.size 0 l.length l.length l _ hb (Nat.le_refl _) (by simp [octs_length])
  rw [show ((octs (List.replicate l.length 0)).take 0 ++ octs l ++ (octs (List.replicate l.length 0)).drop (0 + l.length)) = octs l by
   rw [List.take_zero, List.nil_append, List.drop_of_length_le (by simp [octs_length]), List.append_nil]] at hcp
  have hk := setRow_blk hb (octs l)
  have hUS := Lib.run_unsafeString_row (P := prog) ((w.alloc (.cells (octs (List.replicate l.length 0)).toArray 5)).setRow w.heap.size (octs l).toArray) 345 3 9 5 underlying345 byteCellsOf w.heap.size (octs l).toArray.size
   (by unfold World.shape?; rw [hk]) l h0 (by simp [octs_length]) (by omega)
   (fun j x hx => by
    obtain ⟨hj, rfl⟩ := List.getElem?_eq_some_iff.1 hx
    have := hk.cell j
    rw [octs_get l j hj] at this
    rw [← this]; congr 1; unfold Addr.add; split <;> simp_all)
  have hlt : (0 : Int) < l.length := by omega
  generalize hA : (octs (List.replicate l.length 0)).toArray = M at *
  generalize hC : (octs l).toArray = Y at *
  clear hA hC hb hk h0
  go_enter func212, ntmps212
  go_wp2
  go_ret
  exact RetB.mk rfl (Lib.below_freeze (below_setRow ((Below.refl _ w).alloc (Nat.le_refl _) _) (Nat.le_refl _) _) (p := ⟨w.heap.size, 0, none⟩) (Nat.le_refl _) _)
theorem strClone_any (l : List UInt8) (w : World) (hlim : l.length ≤ 281474976710656) : Calls prog 178 #[.string (bs l)] w (RetB (.string (bs l)) w) := by
 go_enter func178, ntmps178
 go_wp2_with (go_at_call 212; refine (sclone_any l _ hlim).mono ?_; rintro e w1 ⟨rfl, b1⟩)
 go_ret
 exact RetB.mk rfl b1
def Chain (w : World) : List (List UInt8) → Option Nat → Prop
 | [], o => o = none
 | t :: rest, o => ∃ (g : Nat) (next : Option Nat), o = some g ∧ t ≠ [] ∧ Blk w g 320 [.string (bs t), .pointer (next.map fun k => ⟨k, 0, none⟩)] ∧ Chain w rest next
theorem Chain.grown {w w' : World} {j : Nat} {cs : List Value} (hj : Blk w j 152 cs) (hg : w.grownBy w' (some j)) : ∀ (ts : List (List UInt8)) (o : Option Nat), Chain w ts o → Chain w' ts o := by
 intro ts
 induction ts with
 | nil => intro o h; exact h
 | cons t rest ih =>
  rintro o ⟨g, next, h1, h2, h3, h4⟩
  refine ⟨g, next, h1, h2, h3.grown hg ?_, ih next h4⟩
  rintro e
  injection e with e
  subst e
  unfold Blk at h3 hj
  rw [h3] at hj
  injection hj with hj
  injection hj with _ ht
  exact absurd ht (by decide)
theorem Chain.set {w : World} {j : Nat} {cs : List Value} (hj : Blk w j 152 cs) (i : Nat) (u : Value) (ts : List (List UInt8)) (o : Option Nat) (h : Chain w ts o) : Chain (w.setCell ⟨j, i, none⟩ u) ts o :=
 Chain.grown hj (grown_set (World.grownBy.refl _ _) i u) ts o h
theorem Chain.alloc {w : World} (x : Obj) : ∀ (ts : List (List UInt8)) (o : Option Nat), Chain w ts o → Chain (w.alloc x) ts o := by
 intro ts
 induction ts with
 | nil => intro o h; exact h
 | cons t rest ih =>
  rintro o ⟨g, next, h1, h2, h3, h4⟩
  exact ⟨g, next, h1, h2, h3.alloc x, ih next h4⟩
theorem Chain.drew {w : World} : ∀ (ts : List (List UInt8)) (o : Option Nat), Chain w ts o → Chain w.drew ts o := by
 intro ts
 induction ts with
 | nil => intro o h; exact h
 | cons t rest ih =>
  rintro o ⟨g, next, h1, h2, h3, h4⟩
  exact ⟨g, next, h1, h2, h3.drew, ih next h4⟩
def textOf (ts : List (List UInt8)) : List UInt8 := ts.reverse.flatten
theorem textOf_cons (t : List UInt8) (ts : List (List UInt8)) : textOf (t :: ts) = textOf ts ++ t := by simp [textOf]
def JB (pre post : List Value) (a b c d : Value) : List Value := pre ++ a :: b :: c :: d :: post
section
variable {pre post : List Value} {a b c d : Value} (h : pre.length = 26)
include h
theorem jb0 : (JB pre post a b c d)[26]? = some a := by unfold JB; rw [List.getElem?_append_right (by omega), h]; rfl
theorem jb1 : (JB pre post a b c d)[27]? = some b := by unfold JB; rw [List.getElem?_append_right (by omega), h]; rfl
theorem jb2 : (JB pre post a b c d)[28]? = some c := by unfold JB; rw [List.getElem?_append_right (by omega), h]; rfl
theorem jb3 : (JB pre post a b c d)[29]? = some d := by unfold JB; rw [List.getElem?_append_right (by omega), h]; rfl
variable {w : World} {g : Nat} {t : TypeId}
theorem js0 (k : Blk w g t (JB pre post a b c d)) (x : Value) : Blk (w.setCell ⟨g, 26, none⟩ x) g t (JB pre post x b c d) := by have := k.set 26 x; unfold JB at this ⊢; rwa [List.set_append_right _ _ (by omega), h] at this
theorem js1 (k : Blk w g t (JB pre post a b c d)) (x : Value) : Blk (w.setCell ⟨g, 27, none⟩ x) g t (JB pre post a x c d) := by have := k.set 27 x; unfold JB at this ⊢; rwa [List.set_append_right _ _ (by omega), h] at this
theorem js2 (k : Blk w g t (JB pre post a b c d)) (x : Value) : Blk (w.setCell ⟨g, 28, none⟩ x) g t (JB pre post a b x d) := by have := k.set 28 x; unfold JB at this ⊢; rwa [List.set_append_right _ _ (by omega), h] at this
theorem js3 (k : Blk w g t (JB pre post a b c d)) (x : Value) : Blk (w.setCell ⟨g, 29, none⟩ x) g t (JB pre post a b c x) := by have := k.set 29 x; unfold JB at this ⊢; rwa [List.set_append_right _ _ (by omega), h] at this
end
def JoinAt (w : World) (g : Nat) (pre post : List Value) (p : List UInt8) : Prop :=
 ∃ (last : Option Nat) (ts : List (List UInt8)) (b0 b1 : UInt8), pre.length = 26 ∧ Blk w g 152 (JB pre post (.pointer (last.map fun k => ⟨k, 0, none⟩)) (.int .i64 p.length) (.int .u8 (b0.toNat : Int)) (.int .u8 (b1.toNat : Int))) ∧
  Chain w ts last ∧ textOf ts = p ∧ (∀ x, p[0]? = some x → b0 = x) ∧ (∀ x, p[1]? = some x → b1 = x)
def JoinRet (v : Value) (g : Nat) (pre post : List Value) (p : List UInt8) (w : World) (e : Ending) (w' : World) : Prop := e = .returned v ∧ JoinAt w' g pre post p ∧ w.grownBy w' (some g)
theorem keep_nil (g : Nat) (pre post : List Value) (p : List UInt8) (w : World) (h : JoinAt w g pre post p) : Calls prog 173 #[.pointer (some ⟨g, 26, none⟩), .string (bs [])] w (JoinRet (.tuple #[]) g pre post (p ++ []) w) := by
 go_enter func173, ntmps173
 go_wp2
 refine bodyPost_ret (results_none rfl _ _ _) rfl ?_
 exact ⟨rfl, by simpa using h, World.grownBy.refl _ _⟩
theorem joined {w W : World} {g : Nat} {pre post : List Value} (hpl : pre.length = 26) {p s : List UInt8} {last : Option Nat} {ts : List (List UInt8)} {b0 b1 : UInt8} (hk : Blk W g 152 (JB pre post (.pointer (last.map fun k => ⟨k, 0, none⟩)) (.int .i64 p.length) (.int .u8 (b0.toNat : Int)) (.int .u8 (b1.toNat : Int))))
  (hc : Chain W ts last) (ht : textOf ts = p) (hs : s ≠ []) (h0 : ∀ x, (p ++ s)[0]? = some x → b0 = x) (h1 : ∀ x, (p ++ s)[1]? = some x → b1 = x) (hg : w.grownBy W (some g)) (n : Int) (hn : n = (p.length : Int) + s.length) :
  JoinRet (.tuple #[]) g pre post (p ++ s) w (.returned (.tuple #[])) (((W.setCell ⟨g, 26, none⟩ (.pointer (some ⟨W.heap.size, 0, none⟩))).setCell ⟨g, 27, none⟩ (.int .i64 n)).alloc (.cells #[.string (bs s), .pointer (last.map fun k => ⟨k, 0, none⟩)] 320)) := by
 subst hn
 have hk1 := js1 hpl (js0 hpl hk (.pointer (some ⟨W.heap.size, 0, none⟩))) (.int .i64 (p.length + s.length))
 refine ⟨rfl, ⟨some W.heap.size, s :: ts, b0, b1, hpl, ?_, ⟨W.heap.size, last, rfl, hs, ?_, ?_⟩, ?_, h0, h1⟩, ?_⟩
 ·
  have := hk1.alloc (.cells #[.string (bs s), .pointer (last.map fun k => ⟨k, 0, none⟩)] 320)
  simpa using this
 ·
  exact Blk.new' _ _ [.string (bs s), .pointer (last.map fun k => ⟨k, 0, none⟩)] _ (by simp)
 ·
  exact Chain.alloc _ _ _ (Chain.set (js0 hpl hk _) 27 _ _ _ (Chain.set hk 26 _ _ _ hc))
 ·
  rw [textOf_cons, ht]
 ·
  exact grown_alloc (grown_set (grown_set hg 26 _) 27 _) _
theorem keep_two (g : Nat) (pre post : List Value) (p s : List UInt8) (w : World) (h : JoinAt w g pre post p) (hp : 2 ≤ p.length) (hs : s ≠ []) (hb : p.length + s.length ≤ 281474976710656) :
  Calls prog 173 #[.pointer (some ⟨g, 26, none⟩), .string (bs s)] w (JoinRet (.tuple #[]) g pre post (p ++ s) w) := by
 obtain ⟨last, ts, b0, b1, hpl, hk, hc, ht, h0, h1⟩ := h
 have c0 := hk.cell_ 26 (jb0 hpl)
 have c1 := hk.cell_ 27 (jb1 hpl)
 have f0 := hk.frozen 26
 have f1 := hk.frozen 27
 have hse : (s == []) = false := by simpa using hs
 have hp' : ¬ (p.length : Int) < 2 := by omega
 have hgl := hk.lt
 go_enter func173, ntmps173
 go_wp2_with fail
 refine wp_loop_rounds 1 ?_
 rw [rounds_succ]
 go_wp2_with fail
 go_end0
 exact joined hpl hk hc ht hs (fun x hx => h0 x (by rwa [List.getElem?_append_left (by omega)] at hx)) (fun x hx => h1 x (by rwa [List.getElem?_append_left (by omega)] at hx)) (World.grownBy.refl _ _) _ rfl
theorem keep_one (g : Nat) (pre post : List Value) (c a : UInt8) (s : List UInt8) (w : World) (h : JoinAt w g pre post [c]) (hb : s.length + 2 ≤ 281474976710656) :
  Calls prog 173 #[.pointer (some ⟨g, 26, none⟩), .string (bs (a :: s))] w (JoinRet (.tuple #[]) g pre post ([c] ++ (a :: s)) w) := by
 obtain ⟨last, ts, b0, b1, hpl, hk, hc, ht, h0, h1⟩ := h
 have c0 := hk.cell_ 26 (jb0 hpl)
 have c1 := hk.cell_ 27 (jb1 hpl)
 have c3 := hk.cell_ 29 (jb3 hpl)
 have f3 := hk.frozen 29
 have hgl := hk.lt
 rw [show (([c].length : Nat) : Int) = 1 from rfl] at c1
 go_enter func173, ntmps173
 go_wp2_with fail
 refine wp_loop_rounds 2 ?_
 rw [rounds_succ]
 go_wp2_with fail
 go_region
 go_wp2_with fail
 obtain ⟨W, hW⟩ : ∃ W, W = (w.setCell ⟨g, 29, none⟩ (.int .u8 (a.toNat : Int))).drew := ⟨_, rfl⟩
 rw [← hW]
 have hk1 : Blk W g 152 (JB pre post (.pointer (last.map fun k => ⟨k, 0, none⟩)) (.int .i64 ([c].length : Nat)) (.int .u8 (b0.toNat : Int)) (.int .u8 (a.toNat : Int))) := hW ▸ (js3 hpl hk (.int .u8 (a.toNat : Int))).drew
 have hc1 : Chain W ts last := hW ▸ Chain.drew _ _ (Chain.set hk 29 _ _ _ hc)
 have hg1 : w.grownBy W (some g) := hW ▸ grown_drew (grown_set (World.grownBy.refl _ _) 29 _)
 clear hW c0 c1 c3 f3 hgl hk hc
 have c0 := hk1.cell_ 26 (jb0 hpl)
 have c1 := hk1.cell_ 27 (jb1 hpl)
 have f0 := hk1.frozen 26
 have f1 := hk1.frozen 27
 have hgl := hk1.lt
 rw [show (([c].length : Nat) : Int) = 1 from rfl] at c1
 rw [rounds_succ]
 go_wp2_with fail
 go_end0
 exact joined hpl (s := a :: s) hk1 hc1 ht (by simp) (fun x hx => h0 x (by simpa using hx)) (fun x hx => by simpa using hx) hg1 _ (by simp)
theorem keep_zero1 (g : Nat) (pre post : List Value) (a : UInt8) (w : World) (h : JoinAt w g pre post []) :
  Calls prog 173 #[.pointer (some ⟨g, 26, none⟩), .string (bs [a])] w (JoinRet (.tuple #[]) g pre post ([] ++ [a]) w) := by
 obtain ⟨last, ts, b0, b1, hpl, hk, hc, ht, h0, h1⟩ := h
 have c0 := hk.cell_ 26 (jb0 hpl)
 have c1 := hk.cell_ 27 (jb1 hpl)
 have c2 := hk.cell_ 28 (jb2 hpl)
 have f2 := hk.frozen 28
 have hgl := hk.lt
 rw [show ((([] : List UInt8).length : Nat) : Int) = 0 from rfl] at c1
 go_enter func173, ntmps173
 go_wp2_with fail
 refine wp_loop_rounds 2 ?_
 rw [rounds_succ]
 go_wp2_with fail
 go_region
 go_wp2_with fail
 obtain ⟨W, hW⟩ : ∃ W, W = (w.setCell ⟨g, 28, none⟩ (.int .u8 (a.toNat : Int))).drew := ⟨_, rfl⟩
 rw [← hW]
 have hk1 : Blk W g 152 (JB pre post (.pointer (last.map fun k => ⟨k, 0, none⟩)) (.int .i64 (([] : List UInt8).length : Nat)) (.int .u8 (a.toNat : Int)) (.int .u8 (b1.toNat : Int))) := hW ▸ (js2 hpl hk (.int .u8 (a.toNat : Int))).drew
 have hc1 : Chain W ts last := hW ▸ Chain.drew _ _ (Chain.set hk 28 _ _ _ hc)
 have hg1 : w.grownBy W (some g) := hW ▸ grown_drew (grown_set (World.grownBy.refl _ _) 28 _)
 clear hW c0 c1 c2 f2 hgl hk hc
 have c0 := hk1.cell_ 26 (jb0 hpl)
 have c1 := hk1.cell_ 27 (jb1 hpl)
 have f0 := hk1.frozen 26
 have f1 := hk1.frozen 27
 have hgl := hk1.lt
 rw [show ((([] : List UInt8).length : Nat) : Int) = 0 from rfl] at c1
 rw [rounds_succ]
 go_wp2_with fail
 go_end0
 exact joined hpl (s := [a]) hk1 hc1 ht (by simp) (fun x hx => by simpa using hx) (fun x hx => by simp at hx) hg1 _ (by simp)
theorem keep_zero2 (g : Nat) (pre post : List Value) (a b : UInt8) (s : List UInt8) (w : World) (h : JoinAt w g pre post []) (hb : s.length + 2 ≤ 281474976710656) :
  Calls prog 173 #[.pointer (some ⟨g, 26, none⟩), .string (bs (a :: b :: s))] w (JoinRet (.tuple #[]) g pre post ([] ++ (a :: b :: s)) w) := by
 obtain ⟨last, ts, b0, b1, hpl, hk, hc, ht, h0, h1⟩ := h
 have c0 := hk.cell_ 26 (jb0 hpl)
 have c1 := hk.cell_ 27 (jb1 hpl)
 have c2 := hk.cell_ 28 (jb2 hpl)
 have f2 := hk.frozen 28
 have hgl := hk.lt
 rw [show ((([] : List UInt8).length : Nat) : Int) = 0 from rfl] at c1
 go_enter func173, ntmps173
 go_wp2_with fail
 refine wp_loop_rounds 3 ?_
 rw [rounds_succ]
 go_wp2_with fail
 go_region
 go_wp2_with fail
 obtain ⟨W, hW⟩ : ∃ W, W = (w.setCell ⟨g, 28, none⟩ (.int .u8 (a.toNat : Int))).drew := ⟨_, rfl⟩
 rw [← hW]
 have hk1 : Blk W g 152 (JB pre post (.pointer (last.map fun k => ⟨k, 0, none⟩)) (.int .i64 (([] : List UInt8).length : Nat)) (.int .u8 (a.toNat : Int)) (.int .u8 (b1.toNat : Int))) := hW ▸ (js2 hpl hk (.int .u8 (a.toNat : Int))).drew
 have hc1 : Chain W ts last := hW ▸ Chain.drew _ _ (Chain.set hk 28 _ _ _ hc)
 have hg1 : w.grownBy W (some g) := hW ▸ grown_drew (grown_set (World.grownBy.refl _ _) 28 _)
 clear hW c0 c1 c2 f2 hgl hk hc
 have c0 := hk1.cell_ 26 (jb0 hpl)
 have c1 := hk1.cell_ 27 (jb1 hpl)
 have f0 := hk1.frozen 26
 have f1 := hk1.frozen 27
 have hgl := hk1.lt
 have c3 := hk1.cell_ 29 (jb3 hpl)
 have f3 := hk1.frozen 29
 rw [show ((([] : List UInt8).length : Nat) : Int) = 0 from rfl] at c1
 rw [rounds_succ]
 go_wp2_with fail
 go_region
 go_wp2_with fail
 obtain ⟨V, hV⟩ : ∃ V, V = (W.setCell ⟨g, 29, none⟩ (.int .u8 (b.toNat : Int))).drew := ⟨_, rfl⟩
 rw [← hV]
 have hk2 : Blk V g 152 (JB pre post (.pointer (last.map fun k => ⟨k, 0, none⟩)) (.int .i64 (([] : List UInt8).length : Nat)) (.int .u8 (a.toNat : Int)) (.int .u8 (b.toNat : Int))) := hV ▸ (js3 hpl hk1 (.int .u8 (b.toNat : Int))).drew
 have hc2 : Chain V ts last := hV ▸ Chain.drew _ _ (Chain.set hk1 29 _ _ _ hc1)
 have hg2 : w.grownBy V (some g) := hV ▸ grown_drew (grown_set hg1 29 _)
 clear hV c0 c1 c3 f0 f1 f3 hgl hk1 hc1 hg1
 have c0 := hk2.cell_ 26 (jb0 hpl)
 have c1 := hk2.cell_ 27 (jb1 hpl)
 have f0 := hk2.frozen 26
 have f1 := hk2.frozen 27
 have hgl := hk2.lt
 rw [show ((([] : List UInt8).length : Nat) : Int) = 0 from rfl] at c1
 rw [rounds_succ]
 go_wp2_with fail
 go_end0
 exact joined hpl (s := a :: b :: s) hk2 hc2 ht (by simp) (fun x hx => by simpa using hx) (fun x hx => by simpa using hx) hg2 _ (by simp)
theorem keep_any (g : Nat) (pre post : List Value) (p s : List UInt8) (w : World) (h : JoinAt w g pre post p) (hb : p.length + s.length ≤ 281474976710656) :
  Calls prog 173 #[.pointer (some ⟨g, 26, none⟩), .string (bs s)] w (JoinRet (.tuple #[]) g pre post (p ++ s) w) := by
 rcases s with _ | ⟨a, s⟩
 ·
  exact keep_nil g pre post p w h
 ·
  rcases p with _ | ⟨c, p⟩
  ·
   rcases s with _ | ⟨b, s⟩
   ·
    exact keep_zero1 g pre post a w h
   ·
    exact keep_zero2 g pre post a b s w h (by simpa using hb)
  ·
   rcases p with _ | ⟨d, p⟩
   ·
    exact keep_one g pre post c a s w h (by simp at hb; omega)
   ·
    exact keep_two g pre post _ _ w h (by simp) (by simp) hb
def wholeB (p : List UInt8) : Bool := decide (2 ≤ p.length) && decide (numB (p.take 2) ≤ p.length - 2)
theorem wholeB_iff (s : List UInt8) : wholeB s = true ↔ 2 ≤ s.length ∧ numB (s.take 2) ≤ s.length - 2 := by simp [wholeB]
def msg1 (s : List UInt8) : List UInt8 := (s.drop 2).take (numB (s.take 2))
def rest1 (s : List UInt8) : List UInt8 := s.drop (2 + numB (s.take 2))
def frF : Nat → List UInt8 → List (List UInt8) × List UInt8
 | 0, s => ([], s)
 | k + 1, s => if wholeB s then (msg1 s :: (frF k (rest1 s)).1, (frF k (rest1 s)).2) else ([], s)
theorem rest1_lt (s : List UInt8) (h : wholeB s = true) : (rest1 s).length + 2 ≤ s.length := by
 have := (wholeB_iff s).1 h
 simp [rest1]; omega
theorem frF_fuel : ∀ (k j : Nat) (s : List UInt8), s.length ≤ k → s.length ≤ j → frF k s = frF j s := by
 intro k
 induction k with
 | zero =>
  intro j s hk hj
  have hs : s = [] := List.length_eq_zero_iff.1 (by omega)
  subst hs
  cases j with
  | zero => rfl
  | succ j => simp [frF, wholeB]
 | succ k ih =>
  intro j s hk hj
  cases j with
  | zero =>
   have hs : s = [] := List.length_eq_zero_iff.1 (by omega)
   subst hs
   simp [frF, wholeB]
  | succ j =>
   unfold frF
   cases hw : wholeB s with
   | false => rfl
   | true =>
    have := rest1_lt s hw
    rw [ih j (rest1 s) (by omega) (by omega)]
def frames (s : List UInt8) : List (List UInt8) := (frF s.length s).1
def restF (s : List UInt8) : List UInt8 := (frF s.length s).2
theorem frames_no (s : List UInt8) (h : wholeB s = false) : frames s = [] ∧ restF s = s := by
 unfold frames restF
 cases s.length with
 | zero => exact ⟨rfl, rfl⟩
 | succ k => simp [frF, h]
theorem frames_yes (s : List UInt8) (h : wholeB s = true) : frames s = msg1 s :: frames (rest1 s) ∧ restF s = restF (rest1 s) := by
 have hl := rest1_lt s h
 obtain ⟨k, hk⟩ : ∃ k, s.length = k + 1 := ⟨s.length - 1, by omega⟩
 unfold frames restF
 rw [hk]
 simp only [frF, h, if_true]
 rw [frF_fuel k (rest1 s).length (rest1 s) (by omega) (Nat.le_refl _)]
 exact ⟨rfl, rfl⟩
theorem whole_app (a b : List UInt8) (h : wholeB a = true) : wholeB (a ++ b) = true ∧ msg1 (a ++ b) = msg1 a ∧ rest1 (a ++ b) = rest1 a ++ b := by
 obtain ⟨h1, h2⟩ := (wholeB_iff a).1 h
 have e : (a ++ b).take 2 = a.take 2 := List.take_append_of_le_length h1
 refine ⟨(wholeB_iff _).2 ⟨by simp; omega, by rw [e]; simp; omega⟩, ?_, ?_⟩
 ·
  unfold msg1
  rw [e, List.drop_append_of_le_length h1, List.take_append_of_le_length (by simp; omega)]
 ·
  unfold rest1
  rw [e, List.drop_append_of_le_length (by omega)]
theorem frames_app : ∀ (n : Nat) (a b : List UInt8), a.length ≤ n → frames (a ++ b) = frames a ++ frames (restF a ++ b) ∧ restF (a ++ b) = restF (restF a ++ b) := by
 intro n
 induction n with
 | zero =>
  intro a b h
  have ha : a = [] := List.length_eq_zero_iff.1 (by omega)
  subst ha
  have := frames_no [] rfl
  rw [this.1, this.2]; simp
 | succ n ih =>
  intro a b h
  cases hw : wholeB a with
  | false => rw [(frames_no a hw).1, (frames_no a hw).2]; simp
  | true =>
   obtain ⟨w1, w2, w3⟩ := whole_app a b hw
   have hl := rest1_lt a hw
   obtain ⟨i1, i2⟩ := ih (rest1 a) b (by omega)
   rw [(frames_yes _ w1).1, (frames_yes _ w1).2, (frames_yes a hw).1, (frames_yes a hw).2, w2, w3, i1, i2]
   simp
theorem restF_le : ∀ (n : Nat) (a : List UInt8), a.length ≤ n → (restF a).length ≤ a.length := by
 intro n
 induction n with
 | zero =>
  intro a h
  have ha : a = [] := List.length_eq_zero_iff.1 (by omega)
  subst ha
  rw [(frames_no [] rfl).2]
  exact Nat.le_refl _
 | succ n ih =>
  intro a h
  cases hw : wholeB a with
  | false => rw [(frames_no a hw).2]; exact Nat.le_refl _
  | true =>
   have hl := rest1_lt a hw
   have := ih (rest1 a) (by omega)
   rw [(frames_yes a hw).2]; omega
theorem frames_le : ∀ (n : Nat) (a : List UInt8), a.length ≤ n → (frames a).length * 2 + (restF a).length ≤ a.length := by
 intro n
 induction n with
 | zero =>
  intro a h
  have ha : a = [] := List.length_eq_zero_iff.1 (by omega)
  subst ha
  rw [(frames_no [] rfl).1, (frames_no [] rfl).2]
  simp
 | succ n ih =>
  intro a h
  cases hw : wholeB a with
  | false => rw [(frames_no a hw).1, (frames_no a hw).2]; simp
  | true =>
   have hl := rest1_lt a hw
   have := ih (rest1 a) (by omega)
   rw [(frames_yes a hw).1, (frames_yes a hw).2]
   simp; omega
theorem held_step2 {A W w1 : World} (h : Below A.heap.size A W) (b : Below W.heap.size W w1) : Below A.heap.size A w1 := h.trans (b.mono h.size)
theorem bothp {p q : Prop} (h : p) (f : p → q) : p ∧ q := ⟨h, f h⟩
theorem num2s (g : Nat) (rest : List UInt8) (w : World) (h : EyeAt w g rest false) (hl : rest.length ≤ maxLen) (h2 : 2 ≤ rest.length) :
  Calls prog 177 #[.pointer (some ⟨g, 0, none⟩), .int .i64 2] w (EyeRet (.int .i64 (numB (rest.take 2))) g (rest.drop 2) false w) := by
 have e : (rest.length < 2) = False := by simp; omega
 have h' := num_any g rest false 2 w h hl
 rw [show takeV rest false (hw 2) = rest.take 2 by simp [takeV, hw, e], show takeR rest false (hw 2) = rest.drop 2 by simp [takeR, hw, e], show takeS rest false (hw 2) = false by simp [takeS, hw, e]] at h'
 exact h'
theorem whole_no (g : Nat) (pre post : List Value) (p : List UInt8) (w : World) (h : JoinAt w g pre post p) (hp : p.length < 2) : Calls prog 174 #[.pointer (some ⟨g, 26, none⟩)] w (RetB (.bool (wholeB p)) w) := by
 obtain ⟨last, ts, b0, b1, hpl, hk, hc, ht, h0, h1⟩ := h
 have c1 := hk.cell_ 27 (jb1 hpl)
 have hp' : (p.length : Int) < 2 := by omega
 have hd : decide ((2 : Int) ≤ p.length) = false := by simp; omega
 have hw0 : wholeB p = false := by simp [wholeB]; omega
 rw [hw0]
 clear hw0
 go_enter func174, ntmps174
 go_wp2_with fail
 go_quiet (fail)
 go_wp2_with fail
 go_ret
 exact RetB.mk rfl (below_drewN (Below.refl _ _) _)
theorem whole_two (g : Nat) (pre post : List Value) (a b : UInt8) (p : List UInt8) (w : World) (h : JoinAt w g pre post (a :: b :: p)) (hm : p.length ≤ 281474976710656) : Calls prog 174 #[.pointer (some ⟨g, 26, none⟩)] w (RetB (.bool (wholeB (a :: b :: p))) w) := by
 obtain ⟨last, ts, b0, b1, hpl, hk, hc, ht, h0, h1⟩ := h
 obtain rfl : b0 = a := h0 a rfl
 obtain rfl : b1 = b := h1 b rfl
 obtain ⟨n, hn⟩ : ∃ n : Int, n = ((b0 :: b1 :: p).length : Nat) := ⟨_, rfl⟩
 rw [← hn] at hk
 have hn2 : (2 : Int) ≤ n := by simp at hn; omega
 have hn3 : n ≤ 281474976710658 := by simp at hn; omega
 have hd : decide ((2 : Int) ≤ n) = true := by simpa using hn2
 have HN := Hh hn
 have hcv : ∀ W, Below w.heap.size w W → W.cell? ⟨g, 27, none⟩ = some (.int .i64 n) ∧ (convert 145 9 (.slice (some ⟨g, 28, none⟩) 2 2)).run prog W = .ok (.string (bs [b0, b1])) W := by
  intro W hW
  have hB := hk.below hW hk.lt
  refine ⟨hB.cell_ 27 (jb1 hpl), run_convert_bytes_back W 145 9 5 ⟨g, 28, none⟩ 2 [b0, b1] underlying145 underlying5 underlying9 ?_⟩
  intro j hj
  have : j = 0 ∨ j = 1 := by simp at hj; omega
  rcases this with rfl | rfl
  ·
   exact hB.cell_ 28 (jb2 hpl)
  ·
   exact hB.cell_ 29 (jb3 hpl)
 have HS := Hh hcv
 have c1 := hk.cell_ 27 (jb1 hpl)
 clear hcv hn hk hc ht h0 h1
 go_enter func174, ntmps174
 go_wp2_with fail
 go_region_held3 (fun w' => Below w.heap.size w w' ∧ w'.cell? ⟨g, 27, none⟩ = some (.int .i64 n) ∧ (convert 145 9 (.slice (some ⟨g, 28, none⟩) 2 2)).run prog w' = .ok (.string (bs [b0, b1])) w') ((refine bothp ?_ (HS.out _); first | exact (Below.refl _ _).drew | exact held_step2 (And.left ‹Below w.heap.size w _ ∧ _›) b3 | exact below_grown (And.left ‹Below w.heap.size w _ ∧ _›) b4 (And.left ‹Below w.heap.size w _ ∧ _›).size hg3))
  (first
   | (go_at_call 176; refine (new_any [b0, b1] _).mono ?_; rintro e w3 ⟨rfl, h3, b3⟩; have hg3 := (And.left ‹Below w.heap.size w _ ∧ _›).size)
   | (go_at_call 177; refine (num2s _ [b0, b1] _ h3 (by simp [maxLen]) (by simp)).mono ?_; rintro e w4 ⟨rfl, h4, b4⟩))
 have hfin := And.left ‹Below w.heap.size w _ ∧ _›
 go_wp2_with fail
 go_ret
 refine RetB.mk (ret_bool ?_) hfin
 rw [IntWalk.i64_in _ (by omega)]
 have := HN.out
 simp only [List.length_cons] at this
 simp only [wholeB, List.length_cons, List.take_succ_cons, List.take_zero]
 rw [Bool.eq_iff_iff]
 simp only [decide_eq_true_eq, Bool.and_eq_true]
 constructor
 ·
  intro hh
  refine ⟨by omega, decide_eq_true ?_⟩
  omega
 ·
  rintro ⟨_, hh⟩
  have := of_decide_eq_true hh
  omega
theorem whole_any (g : Nat) (pre post : List Value) (p : List UInt8) (w : World) (h : JoinAt w g pre post p) (hm : p.length ≤ 281474976710656) : Calls prog 174 #[.pointer (some ⟨g, 26, none⟩)] w (RetB (.bool (wholeB p)) w) := by
 rcases p with _ | ⟨a, p⟩
 ·
  exact whole_no g pre post [] w h (by simp)
 ·
  rcases p with _ | ⟨b, p⟩
  ·
   exact whole_no g pre post [a] w h (by simp)
  ·
   exact whole_two g pre post a b p w h (by simp at hm; omega)
def fillV (n : Nat) (done : List UInt8) : List Value := octs (List.replicate (n - done.length) 0) ++ octs done
theorem fillV_length (n : Nat) (done : List UInt8) (h : done.length ≤ n) : (fillV n done).length = n := by simp [fillV, octs_length]; omega
theorem fillV_copy (n : Nat) (t done : List UInt8) (h : t.length + done.length ≤ n) :
  (fillV n done).take (n - (t.length + done.length)) ++ octs t ++ (fillV n done).drop (n - (t.length + done.length) + t.length) = fillV n (t ++ done) := by
 have e1 : (fillV n done).take (n - (t.length + done.length)) = octs (List.replicate (n - (t.length + done.length)) 0) := by
  unfold fillV
  rw [List.take_append_of_le_length (by simp [octs_length]; omega)]
  simp [octs, List.take_replicate]
  omega
 have e2 : (fillV n done).drop (n - (t.length + done.length) + t.length) = octs done := by
  unfold fillV
  rw [List.drop_append_of_le_length (by simp [octs_length]; omega), List.drop_of_length_le (by simp [octs_length]; omega), List.nil_append]
 rw [e1, e2]
 unfold fillV
 rw [octs_app, List.length_append, List.append_assoc]
theorem Chain.keep {w w' : World} (hk : ∀ g cs, Blk w g 320 cs → Blk w' g 320 cs) : ∀ (ts : List (List UInt8)) (o : Option Nat), Chain w ts o → Chain w' ts o := by
 intro ts
 induction ts with
 | nil => intro o h; exact h
 | cons t rest ih =>
  rintro o ⟨g, next, h1, h2, h3, h4⟩
  exact ⟨g, next, h1, h2, hk g _ h3, ih next h4⟩
theorem Blk.ne_of {w : World} {g g' : Nat} {t t' : TypeId} {cs cs' : List Value} (h : Blk w g t cs) (h' : Blk w g' t' cs') (hne : t ≠ t') : g ≠ g' := by
 rintro rfl
 unfold Blk at h h'
 rw [h] at h'
 injection h' with h'
 injection h' with _ ht
 exact hne ht
def EmptyInv (w : World) (g : Nat) (pre post : List Value) (p : List UInt8) (last : Option Nat) (b0 b1 : UInt8) (k : Option Nat) (ts : List (List UInt8)) (done : List UInt8) (wr : World) : Prop :=
 Blk wr g 152 (JB pre post (.pointer (last.map fun k => ⟨k, 0, none⟩)) (.int .i64 p.length) (.int .u8 (b0.toNat : Int)) (.int .u8 (b1.toNat : Int))) ∧ Chain wr ts k ∧ textOf ts ++ done = p ∧
  Blk wr w.heap.size 5 (fillV p.length done) ∧ Below w.heap.size w wr
theorem empty_any (g : Nat) (pre post : List Value) (p : List UInt8) (w : World) (h : JoinAt w g pre post p) (hm : p.length ≤ 281474976710656) : Calls prog 175 #[.pointer (some ⟨g, 26, none⟩)] w (JoinRet (.string (bs p)) g pre post [] w) := by
 obtain ⟨last, ts, b0, b1, hpl, hk, hc, ht, h0, h1⟩ := h
 have c0 := hk.cell_ 26 (jb0 hpl)
 have c1 := hk.cell_ 27 (jb1 hpl)
 have hgl := hk.lt
 have hmk := run_mkbytes p.length hm
 have hinv : EmptyInv w g pre post p last b0 b1 last ts [] (w.alloc (.cells (octs (List.replicate p.length 0)).toArray 5)) :=
  ⟨hk.alloc _, Chain.alloc _ _ _ hc, by rw [ht, List.append_nil], by
   have := Blk.new w 5 (octs (List.replicate p.length 0))
   simpa [fillV, octs] using this, (Below.refl _ _).alloc (Nat.le_refl _) _⟩
 have HI := Hh hinv
 clear hinv hc ht h0 h1 hk
 go_enter func175, ntmps175
 go_wp2_with fail
 clear hmk c0 c1
 go_loopw [4, 5] (fun at_ q wr => ∃ (k : Option Nat) (ts : List (List UInt8)) (done : List UInt8) (o : Option Addr), o = k.map (fun k => ⟨k, 0, none⟩) ∧ at_ = .int .i64 ((p.length - done.length : Nat) : Int) ∧ q = .pointer o ∧ EmptyInv w g pre post p last b0 b1 k ts done wr)
  (fun at_ _ _ => (intOf at_).toNat)
 case atStart => exact ⟨last, ts, [], _, rfl, by simp, rfl, HI.out⟩
 case round =>
  clear HI
  obtain ⟨k, ts, done, o, ho, rfl, rfl, q0, q1, q2, q3, q4⟩ := hrel
  rcases ts with _ | ⟨t, rest⟩
  ·
   obtain rfl : k = none := q1
   obtain rfl : o = none := ho
   have hd : done = p := by simpa [textOf] using q2
   subst hd
   have c0 := q0.cell_ 26 (jb0 hpl)
   have c1 := q0.cell_ 27 (jb1 hpl)
   have c2 := q0.cell_ 28 (jb2 hpl)
   have c3 := q0.cell_ 29 (jb3 hpl)
   have f0 := q0.frozen 26
   have f1 := q0.frozen 27
   have f2 := q0.frozen 28
   have f3 := q0.frozen 29
   have hgn : g ≠ w.heap.size := by omega
   have hg4 : wr.grownBy ((((wr.setCell ⟨g, 26, none⟩ (.pointer none)).setCell ⟨g, 27, none⟩ (.int .i64 0)).setCell ⟨g, 28, none⟩ (.int .u8 0)).setCell ⟨g, 29, none⟩ (.int .u8 0)) (some g) := grown_set (grown_set (grown_set (grown_set (World.grownBy.refl _ _) 26 _) 27 _) 28 _) 29 _
   have hk4 : Blk ((((wr.setCell ⟨g, 26, none⟩ (.pointer none)).setCell ⟨g, 27, none⟩ (.int .i64 0)).setCell ⟨g, 28, none⟩ (.int .u8 0)).setCell ⟨g, 29, none⟩ (.int .u8 0)) g 152 (JB pre post (.pointer none) (.int .i64 0) (.int .u8 0) (.int .u8 0)) := js3 hpl (js2 hpl (js1 hpl (js0 hpl q0 (.pointer none)) (.int .i64 0)) (.int .u8 0)) (.int .u8 0)
   have hcv := run_str_of_row _ w.heap.size done.length done _ (q3.grown hg4 (by simp; omega)) (by unfold fillV; rw [Nat.sub_self, List.take_of_length_le (by simp [octs])]; rfl)
   have HK := Hh hk4
   have HG := Hh hg4
   clear hk4 hg4
   go_wp2_with fail
   go_ret
   refine ⟨rfl, ⟨none, [], 0, 0, hpl, HK.out, rfl, rfl, by simp, by simp⟩, ?_⟩
   exact grown_trans (grown_of_below q4 (some g)) HG.out (.inl rfl)
  ·
   obtain ⟨kk, next, rfl, r1, r2, r3⟩ := q1
   obtain rfl : o = some ⟨kk, 0, none⟩ := ho
   obtain ⟨o2, ho2⟩ : ∃ o2 : Option Addr, o2 = next.map fun k => ⟨k, 0, none⟩ := ⟨_, rfl⟩
   rw [← ho2] at r2
   have HO := Hh ho2
   clear ho2
   have c0 := r2.cell_ 0 rfl
   have c1 := r2.cell_ 1 rfl
   rw [textOf_cons] at q2
   have hlen : (textOf rest).length + t.length + done.length = p.length := by rw [← q2]; simp; omega
   have hpos : 0 < t.length := List.length_pos_iff.2 r1
   have hl1 : t.length + done.length ≤ p.length := by omega
   obtain ⟨m, hm1⟩ : ∃ m, m = p.length - (t.length + done.length) := ⟨_, rfl⟩
   rw [show p.length - done.length = m + t.length by omega]
   have hfl := fillV_length p.length done (by omega)
   have hcp := run_copy_str wr.drew w.heap.size m (p.length - m) (p.length - m) t (fillV p.length done) q3.drew (by omega) (by omega)
   have hfc := fillV_copy p.length t done hl1
   rw [← hm1] at hfc
   rw [hfc] at hcp
   have hmp : m ≤ p.length := by omega
   have hne : ¬ p.length = m := by omega
   have hgk := r2.lt
   have Q2 := Hh q2
   have HL := Hh hlen
   have HM := Hh hm1
   clear hfc hfl q2 hlen hm1
   generalize hF : fillV p.length (t ++ done) = F at *
   have HF := Hh hF
   clear hF
   go_wp2_with fail
   go_region
   obtain ⟨W, hW⟩ : ∃ W, W = wr.drew.setRow w.heap.size F.toArray := ⟨_, rfl⟩
   rw [← hW]
   have hkeep : ∀ j t cs, t ≠ 5 → Blk wr j t cs → Blk W j t cs := fun j t cs hne hb => hW ▸ setRow_far hb.drew _ (hb.ne_of q3 hne)
   have s0 := hkeep _ _ _ (by decide) q0
   have s2 := hkeep _ _ _ (by decide) r2
   have s3 := Chain.keep (fun j cs hb => hkeep j _ cs (by decide) hb) _ _ r3
   have s4 : Blk W w.heap.size 5 F := hW ▸ setRow_blk q3.drew F
   have s5 : Below w.heap.size w W := hW ▸ below_setRow q4.drew (Nat.le_refl _) _
   clear hW hkeep hcp q0 q3 q4 r2 r3 c0 c1
   have c1 := s2.cell_ 1 rfl
   go_wp2_with fail
   go_roundw
   case rel =>
    refine ⟨next, rest, t ++ done, o2, HO.out, ?_, rfl, s0, s3, by rw [← List.append_assoc]; exact Q2.out, by rw [HF.out]; exact s4, s5⟩
    have := HM.out
    rw [List.length_append, this]
   case measure => simp [intOf]; omega
theorem JoinAt.keep {w w' : World} {g : Nat} {pre post : List Value} {p : List UInt8} (hk : ∀ j t cs, t ≠ 9 → Blk w j t cs → Blk w' j t cs) (h : JoinAt w g pre post p) : JoinAt w' g pre post p := by
 obtain ⟨last, ts, b0, b1, hpl, hb, hc, r⟩ := h
 exact ⟨last, ts, b0, b1, hpl, hk _ _ _ (by decide) hb, Chain.keep (fun j cs hb => hk j _ cs (by decide) hb) _ _ hc, r⟩
theorem JoinAt.below {w w' : World} {g : Nat} {pre post : List Value} {p : List UInt8} (h : JoinAt w g pre post p) (hb : Below w.heap.size w w') : JoinAt w' g pre post p :=
 h.keep fun _ _ _ _ hj => hj.below hb hj.lt
theorem JoinAt.grown {w w' : World} {g k : Nat} {pre post : List Value} {p : List UInt8} (h : JoinAt w g pre post p) (hg : w.grownBy w' (some k)) {t : TypeId} {cs : List Value} (hk : Blk w k t cs) (h1 : t ≠ 152) (h2 : t ≠ 320) : JoinAt w' g pre post p := by
 obtain ⟨last, ts, b0, b1, hpl, hb, hc, r⟩ := h
 refine ⟨last, ts, b0, b1, hpl, hb.grown hg ?_, Chain.keep (fun j cs hj => hj.grown hg ?_) _ _ hc, r⟩
 ·
  intro e; injection e with e; exact hb.ne_of hk (Ne.symm h1) e
 ·
  intro e; injection e with e; exact hj.ne_of hk (Ne.symm h2) e
def FeedRet (g : Nat) (pre post : List Value) (fr : List (List UInt8)) (rest : List UInt8) (w : World) (e : Ending) (w' : World) : Prop := ∃ v, e = .returned v ∧ Txts w' v fr ∧ JoinAt w' g pre post rest ∧ w.grownBy w' (some g)
def strLen : Value → Nat
 | .string s => s.size
 | _ => 0
theorem feed_no (g : Nat) (pre post : List Value) (p s : List UInt8) (w : World) (h : JoinAt w g pre post p) (hb : p.length + s.length ≤ 281474976710656) (hw : wholeB (p ++ s) = false) :
  Calls prog 118 #[.pointer (some ⟨g, 26, none⟩), .string (bs s)] w (FeedRet g pre post (frames (p ++ s)) (restF (p ++ s)) w) := by
 rw [(frames_no _ hw).1, (frames_no _ hw).2]
 have HW := Hh hw
 clear hw
 go_enter func118, ntmps118
 go_wp2_with fail
 refine (keep_any g pre post p s w h hb).mono ?_
 rintro e w1 ⟨rfl, h1, g1⟩
 go_wp2_with fail
 refine (whole_any g pre post _ _ h1 (by simpa using hb)).mono ?_
 rw [HW.out]
 rintro e w2 ⟨rfl, b2⟩
 go_wp2_with fail
 go_ret
 exact ⟨_, rfl, Txts.nil _, h1.below b2, grown_below g1 b2⟩
def FeedInv (w : World) (g : Nat) (pre post : List Value) (s : List UInt8) (r : List UInt8) (v : Value) (wr : World) : Prop :=
 ∃ done, Txts wr v done ∧ done.length + r.length ≤ s.length ∧ JoinAt wr g pre post [] ∧ w.grownBy wr (some g) ∧ (∀ k, v.ownBlock = some k → w.heap.size ≤ k) ∧ frames s = done ++ frames r ∧ restF s = restF r
set_option maxHeartbeats 1000000 in
theorem feed_yes (g : Nat) (pre post : List Value) (p s : List UInt8) (w : World) (h : JoinAt w g pre post p) (hb : p.length + s.length ≤ 8796093022208) (hw : wholeB (p ++ s) = true) :
  Calls prog 118 #[.pointer (some ⟨g, 26, none⟩), .string (bs s)] w (FeedRet g pre post (frames (p ++ s)) (restF (p ++ s)) w) := by
 have HW := Hh hw
 clear hw
 have hls : (p ++ s).length ≤ 8796093022208 := by simpa using hb
 go_enter func118, ntmps118
 go_wp2_with fail
 refine (keep_any g pre post p s w h (by omega)).mono ?_
 rintro e w1 ⟨rfl, h1, g1⟩
 go_wp2_with fail
 refine (whole_any g pre post _ _ h1 (by omega)).mono ?_
 rw [HW.out]
 rintro e w2 ⟨rfl, b2⟩
 have h2 := h1.below b2
 have g2 := grown_below g1 b2
 go_wp2_with fail
 refine (empty_any g pre post _ _ h2 (by omega)).mono ?_
 rintro e w3 ⟨rfl, h3, g3⟩
 have g3' := grown_trans g2 g3 (.inl rfl)
 generalize p ++ s = ps at *
 clear h h1 h2 g1 g2 g3 b2 HW
 clear w1 w2
 have hinv : FeedInv w g pre post ps ps (.slice none 0 0) w3 := ⟨[], Txts.nil _, by simp, h3, g3', by simp [Value.ownBlock], by simp, rfl⟩
 have HI := Hh hinv
 clear hinv h3 g3'
 go_wp2_with fail
 go_loopw [5, 6] (fun v q wr => ∃ r : List UInt8, q = .string (bs r) ∧ FeedInv w g pre post ps r v wr) (fun _ q _ => strLen q)
 case atStart => exact ⟨ps, rfl, HI.out⟩
 case round =>
  clear HI
  obtain ⟨r, rfl, done, t0, hdl, j0, f0, hob, e1, e2⟩ := hrel
  have OB := Hh hob
  clear hob
  have E1 := Hh e1
  have E2 := Hh e2
  clear e1 e2
  by_cases hlen : 2 ≤ r.length
  ·
   have hlen' : (2 : Int) ≤ r.length := by omega
   go_wp2_with fail
   refine (new_any r _).mono ?_
   rintro e w4 ⟨rfl, y4, b4⟩
   go_wp2_with fail
   refine (num2s _ r _ y4 (by simp only [maxLen]; omega) hlen).mono ?_
   rintro e w5 ⟨rfl, y5, g5⟩
   have t5 : Txts w5 u5 done := (t0.below b4).grown g5 y4 (by decide)
   have j5 : JoinAt w5 g pre post [] := (j0.below b4).grown g5 y4 (by decide) (by decide)
   have f5 : w.grownBy w5 (some g) := grown_trans (grown_below f0 b4) g5 (.inr (fun k hk => by injection hk with hk; subst hk; exact f0.size))
   have hlt5 : numB (r.take 2) < 65536 := numB_le _ 2 (by simp; omega)
   clear t0 j0 f0 b4 g5 y4 y5
   clear w4
   by_cases hwh : numB (r.take 2) ≤ r.length - 2
   ·
    have hwt : wholeB r = true := (wholeB_iff r).2 ⟨hlen, hwh⟩
    have F1 := Hh (frames_yes r hwt)
    have hrl := rest1_lt r hwt
    have R1 := Hh (show rest1 r = r.drop (2 + numB (r.take 2)) from rfl)
    have M1 := Hh (show msg1 r = (r.take (2 + numB (r.take 2))).drop 2 by rw [List.drop_take]; unfold msg1; congr 1; omega)
    have hn1 : (numB (r.take 2) : Int) ≤ (r.length : Int) - 2 := by omega
    clear hwt
    generalize numB (r.take 2) = n at *
    go_wp2_with (at_builtin; go_must (refine wpList_app _ rfl (.tmp 29) (.tmp 34) 25 rfl 9 (.string ⟨#[]⟩) 1 16 underlying25 strInfo rfl (by decide) u5 done.length _ rfl (World.ownsRow.alloc t5 _) ⟨w5.heap.size, 0, none⟩ 1 1 [.string (bs ((r.take (2 + n)).drop 2))] rfl rfl (new_one _ _ _ _ rfl) (one_cell1 rfl) (by decide) (by simp only [maxLen]; omega) (by omega) ?_))
    intro gg cap w6 own6 g6 hat
    have hkp := own_keeps (World.ownsRow.alloc t5 (.cells #[.string (bs ((r.take (2 + n)).drop 2))] 9)) g6
    have j6 : JoinAt w6 g pre post [] := (j5.keep (fun _ _ _ _ hb => hb.alloc _)).keep hkp
    have f6 : w.grownBy w6 (some g) := grown_trans (grown_alloc f5 _) g6 (.inr OB.out)
    have t6 : Txts w6 (.slice (some ⟨gg, 0, none⟩) (done.length + 1) cap) (done ++ [msg1 r]) := by
     unfold Txts
     rw [M1.out]
     simpa using own6
    have ob6 : w.heap.size ≤ gg := by
     rcases hat with e | e
     ·
      exact OB.out _ e
     ·
      have := f5.size; omega
    have OB6 := Hh ob6
    have T6 := Hh t6
    clear hkp own6 g6 hat OB t5 j5 f5 ob6 t6
    go_wp2_with fail
    go_roundw
    case rel =>
     refine ⟨r.drop (2 + n), rfl, done ++ [msg1 r], T6.out, ?_, j6, f6, ?_, ?_, ?_⟩
     ·
      simp; omega
     ·
      intro k hk
      have : gg = k := by simpa [Value.ownBlock] using hk
      subst this; exact OB6.out
     ·
      rw [E1.out, F1.out.1, R1.out]; simp
     ·
      rw [E2.out, F1.out.2, R1.out]
    case measure => simp [strLen]; omega
   ·
    have hno : wholeB r = false := by
     rw [← Bool.not_eq_true, wholeB_iff]; omega
    have hn1 : (r.length : Int) - 2 < (numB (r.take 2) : Int) := by omega
    go_wp2_with fail
    refine (strClone_any r _ (by omega)).mono ?_
    rintro e w6 ⟨rfl, b6⟩
    go_wp2_with fail
    refine (keep_any g pre post [] r _ (j5.below b6) (by simp; omega)).mono ?_
    rintro e w7 ⟨rfl, j7, g7⟩
    go_wp2_with fail
    go_ret
    obtain ⟨_, _, _, _, _, jb, _⟩ := j5.below b6
    exact ⟨_, rfl, by rw [E1.out, (frames_no _ hno).1, List.append_nil]; exact (t5.below b6).grown g7 jb (by decide), by rw [E2.out, (frames_no _ hno).2]; exact j7, grown_trans (grown_below f5 b6) g7 (.inl rfl)⟩
  ·
   have hno : wholeB r = false := by
    rw [← Bool.not_eq_true, wholeB_iff]; omega
   have hlen' : ¬ (2 : Int) ≤ r.length := by omega
   have t5 := t0
   have j5 := j0
   have f5 := f0
   go_wp2_with fail
   refine (strClone_any r _ (by omega)).mono ?_
   rintro e w6 ⟨rfl, b6⟩
   go_wp2_with fail
   refine (keep_any g pre post [] r _ (j5.below b6) (by simp; omega)).mono ?_
   rintro e w7 ⟨rfl, j7, g7⟩
   go_wp2_with fail
   go_ret
   obtain ⟨_, _, _, _, _, jb, _⟩ := j5.below b6
   exact ⟨_, rfl, by rw [E1.out, (frames_no _ hno).1, List.append_nil]; exact (t5.below b6).grown g7 jb (by decide), by rw [E2.out, (frames_no _ hno).2]; exact j7, grown_trans (grown_below f5 b6) g7 (.inl rfl)⟩
theorem feed_any (g : Nat) (pre post : List Value) (p s : List UInt8) (w : World) (h : JoinAt w g pre post p) (hb : p.length + s.length ≤ 8796093022208) :
  Calls prog 118 #[.pointer (some ⟨g, 26, none⟩), .string (bs s)] w (FeedRet g pre post (frames (p ++ s)) (restF (p ++ s)) w) := by
 cases hw : wholeB (p ++ s) with
 | false => exact feed_no g pre post p s w h (by omega) hw
 | true => exact feed_yes g pre post p s w h hb hw
theorem streamPut_ok (s : List UInt8) (w : World) (h : s.length ≤ 65535) : Calls prog 75 #[.string (bs s)] w (RetB (.tuple #[.string (bs (putB 2 s.length ++ s)), .int .i64 0]) w) := by
 have h' : (s.length : Int) ≤ 65535 := by omega
 have hl := putB_length 2 (s.length : Int)
 go_enter func75, ntmps75
 go_wp2_with fail
 refine (put_any _ _ _).mono ?_
 rintro e w1 ⟨rfl, b1⟩
 rw [show hw 2 = 2 from rfl]
 generalize putB 2 (s.length : Int) = p at *
 have hp : p.length ≤ 2 := by omega
 clear hl
 go_wp2_with fail
 go_ret2
 exact RetB.mk rfl b1
end Go.Proofs.YthnbcmlnpdabhaaGreat
