/-
  strings.Clone.
-/
import Derived.Test.YthnbcmlnpdabhaaGreatGAq
import Derived.Lib.UnsafeStr
namespace Go.Proofs.YthnbcmlnpdabhaaGreat
open _root_.Go.Proofs.Tryz
open Go.RowKit
set_option maxRecDepth 100000
set_option linter.unusedVariables false
set_option linter.unusedSimpArgs false
theorem JI (l : List UInt8) (w : World) (hlim : l.length <= 281474976710656) : Calls prog 212 #[.string (bs l)] w (nM (.string (bs l)) w) := by
 by_cases h0 : l = []
 ·subst h0;go_enter func212, ntmps212;go_wp2;go_ret;exact nM.mk rfl (Below.refl _ _)
 ·
  have hpos : 0 < l.length := List.length_pos_iff.2 h0;have hpos' : ((l.length : Int) == 0) = false := al;have hmk := vF l.length hlim;have hb := nj.new w 5 (oM (List.replicate l.length 0));have hcp := xI _ w.heap.size 0 l.length l.length l _ hb (Nat.le_refl _) cD;rw [show ((oM (List.replicate l.length 0)).take 0 ++ oM l ++ (oM (List.replicate l.length 0)).drop (0 + l.length)) = oM l by
   rw [List.take_zero, List.nil_append, List.drop_of_length_le cD, List.append_nil]] at hcp
  have hk := xg hb (oM l);have hUS := Lib.run_unsafeString_row (P := prog) ((w.alloc (.cells (oM (List.replicate l.length 0)).toArray 5)).setRow w.heap.size (oM l).toArray) 345 3 9 5 underlying345 Gh w.heap.size (oM l).toArray.size
   (by unfold World.shape?; rw [hk]) l h0 cD ak
   (fun j x hx => by
    obtain ⟨hj, rfl⟩ := List.getElem?_eq_some_iff.1 hx;have := hk.cell j;rw [uB l j hj] at this;rw [<- this]; congr 1; unfold Addr.add; split <;> simp_all)
  have hlt : (0 : Int) < l.length := ak;generalize hA : (oM (List.replicate l.length 0)).toArray = M at *;generalize hC : (oM l).toArray = Y at *;clear hA hC hb hk h0;go_enter func212, ntmps212;go_wp2;go_ret;exact nM.mk rfl (Lib.below_freeze (below_setRow ((Below.refl _ w).alloc (Nat.le_refl _) _) (Nat.le_refl _) _) (p := ⟨w.heap.size, 0, none⟩) (Nat.le_refl _) _)
theorem tH (l : List UInt8) (w : World) (hlim : l.length <= 281474976710656) : Calls prog 178 #[.string (bs l)] w (nM (.string (bs l)) w) := by
 go_enter func178, ntmps178;go_wp2_with (go_at_call 212; refine (JI l _ hlim).mono ?_; rintro e w1 ⟨rfl, b1⟩);go_ret;exact nM.mk rfl b1
def om (w : World) : List (List UInt8) -> Option Nat -> Prop
 | [], o => o = none
 | t :: rest, o => ∃ (g : Nat) (next : Option Nat), o = some g /\ t ≠ [] /\ nj w g 320 [.string (bs t), .pointer (next.map fun k => ⟨k, 0, none⟩)] /\ om w rest next
theorem om.grown {w w' : World} {j : Nat} {cs : List Value} (hj : nj w j 152 cs) (hg : w.grownBy w' (some j)) : ∀ (ts : List (List UInt8)) (o : Option Nat), om w ts o -> om w' ts o := by
 intro ts;induction ts with
 | nil => intro o h; exact h
 | cons t rest ih => exact kI
theorem om.set {w : World} {j : Nat} {cs : List Value} (hj : nj w j 152 cs) (i : Nat) (u : Value) (ts : List (List UInt8)) (o : Option Nat) (h : om w ts o) : om (w.setCell ⟨j, i, none⟩ u) ts o :=
 om.grown hj (nT (World.grownBy.refl _ _) i u) ts o h
theorem om.alloc {w : World} (x : Obj) : ∀ (ts : List (List UInt8)) (o : Option Nat), om w ts o -> om (w.alloc x) ts o := by
 intro ts;induction ts with
 | nil => intro o h; exact h
 | cons t rest ih => rintro o ⟨g, next, h1, h2, h3, h4⟩;exact ⟨g, next, h1, h2, h3.alloc x, ih next h4⟩
theorem om.drew {w : World} : ∀ (ts : List (List UInt8)) (o : Option Nat), om w ts o -> om w.drew ts o := by
 intro ts;induction ts with
 | nil => intro o h; exact h
 | cons t rest ih => rintro o ⟨g, next, h1, h2, h3, h4⟩;exact ⟨g, next, h1, h2, h3.drew, ih next h4⟩
def tu (ts : List (List UInt8)) : List UInt8 := ts.reverse.flatten
theorem vT (t : List UInt8) (ts : List (List UInt8)) : tu (t :: ts) = tu ts ++ t := by simp [tu]
def JB (pre post : List Value) (a b c d : Value) : List Value := pre ++ a :: b :: c :: d :: post
section
variable {pre post : List Value} {a b c d : Value} (h : pre.length = 26)
include h
theorem Rv : (JB pre post a b c d)[26]? = some a := by unfold JB; rw [List.getElem?_append_right ak, h]; rfl
theorem Nb : (JB pre post a b c d)[27]? = some b := by unfold JB; rw [List.getElem?_append_right ak, h]; rfl
theorem Wl : (JB pre post a b c d)[28]? = some c := by unfold JB; rw [List.getElem?_append_right ak, h]; rfl
theorem Wm : (JB pre post a b c d)[29]? = some d := by unfold JB; rw [List.getElem?_append_right ak, h]; rfl
variable {w : World} {g : Nat} {t : TypeId}
theorem WD (k : nj w g t (JB pre post a b c d)) (x : Value) : nj (w.setCell ⟨g, 26, none⟩ x) g t (JB pre post x b c d) := by have := k.set 26 x; unfold JB at this ⊢; rwa [List.set_append_right _ _ ak, h] at this
theorem WR (k : nj w g t (JB pre post a b c d)) (x : Value) : nj (w.setCell ⟨g, 27, none⟩ x) g t (JB pre post a x c d) := by have := k.set 27 x; unfold JB at this ⊢; rwa [List.set_append_right _ _ ak, h] at this
theorem WT (k : nj w g t (JB pre post a b c d)) (x : Value) : nj (w.setCell ⟨g, 28, none⟩ x) g t (JB pre post a b x d) := by have := k.set 28 x; unfold JB at this ⊢; rwa [List.set_append_right _ _ ak, h] at this
theorem WE (k : nj w g t (JB pre post a b c d)) (x : Value) : nj (w.setCell ⟨g, 29, none⟩ x) g t (JB pre post a b c x) := by have := k.set 29 x; unfold JB at this ⊢; rwa [List.set_append_right _ _ ak, h] at this
end
def pA (w : World) (g : Nat) (pre post : List Value) (p : List UInt8) : Prop :=
 ∃ (last : Option Nat) (ts : List (List UInt8)) (b0 b1 : UInt8), pre.length = 26 /\ nj w g 152 (JB pre post (.pointer (last.map fun k => ⟨k, 0, none⟩)) (.int .i64 p.length) (.int .u8 (b0.toNat : Int)) (.int .u8 (b1.toNat : Int))) /\
  om w ts last /\ tu ts = p /\ (∀ x, p[0]? = some x -> b0 = x) /\ (∀ x, p[1]? = some x -> b1 = x)
def ui (v : Value) (g : Nat) (pre post : List Value) (p : List UInt8) (w : World) (e : Ending) (w' : World) : Prop := e = .returned v /\ pA w' g pre post p /\ w.grownBy w' (some g)
theorem PZ (g : Nat) (pre post : List Value) (p : List UInt8) (w : World) (h : pA w g pre post p) : Calls prog 173 #[.pointer (some ⟨g, 26, none⟩), .string (bs [])] w (ui (.tuple #[]) g pre post (p ++ []) w) := by
 exact lJ
theorem Fj {w W : World} {g : Nat} {pre post : List Value} (hpl : pre.length = 26) {p s : List UInt8} {last : Option Nat} {ts : List (List UInt8)} {b0 b1 : UInt8} (hk : nj W g 152 (JB pre post (.pointer (last.map fun k => ⟨k, 0, none⟩)) (.int .i64 p.length) (.int .u8 (b0.toNat : Int)) (.int .u8 (b1.toNat : Int))))
  (hc : om W ts last) (ht : tu ts = p) (hs : s ≠ []) (h0 : ∀ x, (p ++ s)[0]? = some x -> b0 = x) (h1 : ∀ x, (p ++ s)[1]? = some x -> b1 = x) (hg : w.grownBy W (some g)) (n : Int) (hn : n = (p.length : Int) + s.length) :
  ui (.tuple #[]) g pre post (p ++ s) w (.returned (.tuple #[])) (((W.setCell ⟨g, 26, none⟩ (.pointer (some ⟨W.heap.size, 0, none⟩))).setCell ⟨g, 27, none⟩ (.int .i64 n)).alloc (.cells #[.string (bs s), .pointer (last.map fun k => ⟨k, 0, none⟩)] 320)) := by
 subst hn;have hk1 := WR hpl (WD hpl hk (.pointer (some ⟨W.heap.size, 0, none⟩))) (.int .i64 (p.length + s.length));refine ⟨rfl, ⟨some W.heap.size, s :: ts, b0, b1, hpl, ?_, ⟨W.heap.size, last, rfl, hs, ?_, ?_⟩, ?_, h0, h1⟩, ?_⟩
 ·exact lV
 ·exact mo
 ·exact om.alloc _ _ _ (om.set (WD hpl hk _) 27 _ _ _ (om.set hk 26 _ _ _ hc))
 ·rw [vT, ht]
 ·exact rX (nT (nT hg 26 _) 27 _) _
theorem P4 (g : Nat) (pre post : List Value) (p s : List UInt8) (w : World) (h : pA w g pre post p) (hp : 2 <= p.length) (hs : s ≠ []) (hb : p.length + s.length <= 281474976710656) :
  Calls prog 173 #[.pointer (some ⟨g, 26, none⟩), .string (bs s)] w (ui (.tuple #[]) g pre post (p ++ s) w) := by
 obtain ⟨last, ts, b0, b1, hpl, hk, hc, ht, h0, h1⟩ := h;have c0 := hk.nf 26 (Rv hpl);have c1 := hk.nf 27 (Nb hpl);have f0 := hk.frozen 26;have f1 := hk.frozen 27;have hse : (s == []) = false := iB;have hp' : ¬ (p.length : Int) < 2 := ak;have hgl := hk.lt;go_enter func173, ntmps173;go_wp2_with fail;refine wp_loop_rounds 1 ?_;rw [rounds_succ];go_wp2_with fail;go_end0;exact Fj hpl hk hc ht hs (fun x hx => h0 x (by rwa [List.getElem?_append_left ak] at hx)) (fun x hx => h1 x (by rwa [List.getElem?_append_left ak] at hx)) (World.grownBy.refl _ _) _ rfl
theorem P5 (g : Nat) (pre post : List Value) (c a : UInt8) (s : List UInt8) (w : World) (h : pA w g pre post [c]) (hb : s.length + 2 <= 281474976710656) :
  Calls prog 173 #[.pointer (some ⟨g, 26, none⟩), .string (bs (a :: s))] w (ui (.tuple #[]) g pre post ([c] ++ (a :: s)) w) := by
 obtain ⟨last, ts, b0, b1, hpl, hk, hc, ht, h0, h1⟩ := h;have c0 := hk.nf 26 (Rv hpl);have c1 := hk.nf 27 (Nb hpl);have c3 := hk.nf 29 (Wm hpl);have f3 := hk.frozen 29;have hgl := hk.lt;rw [show (([c].length : Nat) : Int) = 1 from rfl] at c1;go_enter func173, ntmps173;go_wp2_with fail;refine wp_loop_rounds 2 ?_;rw [rounds_succ];go_wp2_with fail;go_region;go_wp2_with fail;obtain ⟨W, hW⟩ : ∃ W, W = (w.setCell ⟨g, 29, none⟩ (.int .u8 (a.toNat : Int))).drew := eE;rw [<- hW];have hk1 : nj W g 152 (JB pre post (.pointer (last.map fun k => ⟨k, 0, none⟩)) (.int .i64 ([c].length : Nat)) (.int .u8 (b0.toNat : Int)) (.int .u8 (a.toNat : Int))) := hW ▸ (WE hpl hk (.int .u8 (a.toNat : Int))).drew;have hc1 : om W ts last := hW ▸ om.drew _ _ (om.set hk 29 _ _ _ hc);have hg1 : w.grownBy W (some g) := hW ▸ qK (nT (World.grownBy.refl _ _) 29 _);clear hW c0 c1 c3 f3 hgl hk hc;have c0 := hk1.nf 26 (Rv hpl);have c1 := hk1.nf 27 (Nb hpl);have f0 := hk1.frozen 26;have f1 := hk1.frozen 27;have hgl := hk1.lt;rw [show (([c].length : Nat) : Int) = 1 from rfl] at c1;rw [rounds_succ];go_wp2_with fail;go_end0;exact Fj hpl (s := a :: s) hk1 hc1 ht ag (fun x hx => h0 x (by simpa using hx)) (fun x hx => by simpa using hx) hg1 _ ag
theorem JJ (g : Nat) (pre post : List Value) (a : UInt8) (w : World) (h : pA w g pre post []) :
  Calls prog 173 #[.pointer (some ⟨g, 26, none⟩), .string (bs [a])] w (ui (.tuple #[]) g pre post ([] ++ [a]) w) := by
 obtain ⟨last, ts, b0, b1, hpl, hk, hc, ht, h0, h1⟩ := h;have c0 := hk.nf 26 (Rv hpl);have c1 := hk.nf 27 (Nb hpl);have c2 := hk.nf 28 (Wl hpl);have f2 := hk.frozen 28;have hgl := hk.lt;rw [show ((([] : List UInt8).length : Nat) : Int) = 0 from rfl] at c1;go_enter func173, ntmps173;go_wp2_with fail;refine wp_loop_rounds 2 ?_;rw [rounds_succ];go_wp2_with fail;go_region;go_wp2_with fail;obtain ⟨W, hW⟩ : ∃ W, W = (w.setCell ⟨g, 28, none⟩ (.int .u8 (a.toNat : Int))).drew := eE;rw [<- hW];have hk1 : nj W g 152 (JB pre post (.pointer (last.map fun k => ⟨k, 0, none⟩)) (.int .i64 (([] : List UInt8).length : Nat)) (.int .u8 (a.toNat : Int)) (.int .u8 (b1.toNat : Int))) := iQ;have hc1 : om W ts last := iW;have hg1 : w.grownBy W (some g) := ix;clear hW c0 c1 c2 f2 hgl hk hc;have c0 := hk1.nf 26 (Rv hpl);have c1 := hk1.nf 27 (Nb hpl);have f0 := hk1.frozen 26;have f1 := hk1.frozen 27;have hgl := hk1.lt;rw [show ((([] : List UInt8).length : Nat) : Int) = 0 from rfl] at c1;rw [rounds_succ];go_wp2_with fail;go_end0;exact Fj hpl (s := [a]) hk1 hc1 ht ag (fun x hx => by simpa using hx) (fun x hx => by simp at hx) hg1 _ ag
theorem JK (g : Nat) (pre post : List Value) (a b : UInt8) (s : List UInt8) (w : World) (h : pA w g pre post []) (hb : s.length + 2 <= 281474976710656) :
  Calls prog 173 #[.pointer (some ⟨g, 26, none⟩), .string (bs (a :: b :: s))] w (ui (.tuple #[]) g pre post ([] ++ (a :: b :: s)) w) := by
 obtain ⟨last, ts, b0, b1, hpl, hk, hc, ht, h0, h1⟩ := h;have c0 := hk.nf 26 (Rv hpl);have c1 := hk.nf 27 (Nb hpl);have c2 := hk.nf 28 (Wl hpl);have f2 := hk.frozen 28;have hgl := hk.lt;rw [show ((([] : List UInt8).length : Nat) : Int) = 0 from rfl] at c1;go_enter func173, ntmps173;go_wp2_with fail;refine wp_loop_rounds 3 ?_;rw [rounds_succ];go_wp2_with fail;go_region;go_wp2_with fail;obtain ⟨W, hW⟩ : ∃ W, W = (w.setCell ⟨g, 28, none⟩ (.int .u8 (a.toNat : Int))).drew := eE;rw [<- hW];have hk1 : nj W g 152 (JB pre post (.pointer (last.map fun k => ⟨k, 0, none⟩)) (.int .i64 (([] : List UInt8).length : Nat)) (.int .u8 (a.toNat : Int)) (.int .u8 (b1.toNat : Int))) := iQ;have hc1 : om W ts last := iW;have hg1 : w.grownBy W (some g) := ix;clear hW c0 c1 c2 f2 hgl hk hc;have c0 := hk1.nf 26 (Rv hpl);have c1 := hk1.nf 27 (Nb hpl);have f0 := hk1.frozen 26;have f1 := hk1.frozen 27;have hgl := hk1.lt;have c3 := hk1.nf 29 (Wm hpl);have f3 := hk1.frozen 29;rw [show ((([] : List UInt8).length : Nat) : Int) = 0 from rfl] at c1;rw [rounds_succ];go_wp2_with fail;go_region;go_wp2_with fail;obtain ⟨V, hV⟩ : ∃ V, V = (W.setCell ⟨g, 29, none⟩ (.int .u8 (b.toNat : Int))).drew := eE;rw [<- hV];have hk2 : nj V g 152 (JB pre post (.pointer (last.map fun k => ⟨k, 0, none⟩)) (.int .i64 (([] : List UInt8).length : Nat)) (.int .u8 (a.toNat : Int)) (.int .u8 (b.toNat : Int))) := hV ▸ (WE hpl hk1 (.int .u8 (b.toNat : Int))).drew;have hc2 : om V ts last := hV ▸ om.drew _ _ (om.set hk1 29 _ _ _ hc1);have hg2 : w.grownBy V (some g) := hV ▸ qK (nT hg1 29 _);clear hV c0 c1 c3 f0 f1 f3 hgl hk1 hc1 hg1;have c0 := hk2.nf 26 (Rv hpl);have c1 := hk2.nf 27 (Nb hpl);have f0 := hk2.frozen 26;have f1 := hk2.frozen 27;have hgl := hk2.lt;rw [show ((([] : List UInt8).length : Nat) : Int) = 0 from rfl] at c1;rw [rounds_succ];go_wp2_with fail;go_end0;exact Fj hpl (s := a :: b :: s) hk2 hc2 ht ag (fun x hx => by simpa using hx) (fun x hx => by simpa using hx) hg2 _ ag
theorem xZ (g : Nat) (pre post : List Value) (p s : List UInt8) (w : World) (h : pA w g pre post p) (hb : p.length + s.length <= 281474976710656) :
  Calls prog 173 #[.pointer (some ⟨g, 26, none⟩), .string (bs s)] w (ui (.tuple #[]) g pre post (p ++ s) w) := by
 rcases s with _ | ⟨a, s⟩
 ·exact PZ g pre post p w h
 ·
  rcases p with _ | ⟨c, p⟩
  ·
   rcases s with _ | ⟨b, s⟩
   ·exact JJ g pre post a w h
   ·exact JK g pre post a b s w h aC
  ·
   rcases p with _ | ⟨d, p⟩
   ·exact P5 g pre post c a s w h (by simp at hb; omega)
   ·exact P4 g pre post _ _ w h ag ag hb
def oO (p : List UInt8) : Bool := decide (2 <= p.length) && decide (oE (p.take 2) <= p.length - 2)
theorem sK (s : List UInt8) : oO s = true ↔ 2 <= s.length /\ oE (s.take 2) <= s.length - 2 := by simp [oO]
def y8 (s : List UInt8) : List UInt8 := (s.drop 2).take (oE (s.take 2))
def sE (s : List UInt8) : List UInt8 := s.drop (2 + oE (s.take 2))
def P6 : Nat -> List UInt8 -> List (List UInt8) × List UInt8
 | 0, s => ([], s)
 | k + 1, s => if oO s then (y8 s :: (P6 k (sE s)).1, (P6 k (sE s)).2) else ([], s)
theorem s8 (s : List UInt8) (h : oO s = true) : (sE s).length + 2 <= s.length := by
 have := (sK s).1 h;simp [sE]; omega
theorem P7 : ∀ (k j : Nat) (s : List UInt8), s.length <= k -> s.length <= j -> P6 k s = P6 j s := by
 intro k;induction k with
 | zero =>
  intro j s hk hj;have hs : s = [] := ff;subst hs;cases j with
  | zero => rfl
  | succ j => simp [P6, oO]
 | succ k ih =>
  intro j s hk hj;cases j with
  | zero => have hs : s = [] := ff;subst hs;simp [P6, oO]
  | succ j =>
   unfold P6;cases hw : oO s with
   | false => rfl
   | true => have := s8 s hw;rw [ih j (sE s) ak ak]
def n9 (s : List UInt8) : List (List UInt8) := (P6 s.length s).1
def pB (s : List UInt8) : List UInt8 := (P6 s.length s).2
theorem oZ (s : List UInt8) (h : oO s = false) : n9 s = [] /\ pB s = s := by
 unfold n9 pB;cases s.length with
 | zero => exact ⟨rfl, rfl⟩
 | succ k => simp [P6, h]
theorem qw (s : List UInt8) (h : oO s = true) : n9 s = y8 s :: n9 (sE s) /\ pB s = pB (sE s) := by
 have hl := s8 s h;obtain ⟨k, hk⟩ : ∃ k, s.length = k + 1 := ⟨s.length - 1, ak⟩;unfold n9 pB;rw [hk];simp only [P6, h, if_true];rw [P7 k (sE s).length (sE s) ak (Nat.le_refl _)];exact ⟨rfl, rfl⟩
theorem Nc (a b : List UInt8) (h : oO a = true) : oO (a ++ b) = true /\ y8 (a ++ b) = y8 a /\ sE (a ++ b) = sE a ++ b := by
 obtain ⟨h1, h2⟩ := (sK a).1 h;have e : (a ++ b).take 2 = a.take 2 := List.take_append_of_le_length h1;refine ⟨(sK _).2 ⟨al, by rw [e]; simp; omega⟩, ?_, ?_⟩
 ·unfold y8;rw [e, List.drop_append_of_le_length h1, List.take_append_of_le_length al]
 ·unfold sE;rw [e, List.drop_append_of_le_length ak]
theorem JL : ∀ (n : Nat) (a b : List UInt8), a.length <= n -> n9 (a ++ b) = n9 a ++ n9 (pB a ++ b) /\ pB (a ++ b) = pB (pB a ++ b) := by
 intro n;induction n with
 | zero => intro a b h;have ha : a = [] := ff;subst ha;have := oZ [] rfl;rw [this.1, this.2]; simp
 | succ n ih =>
  intro a b h;cases hw : oO a with
  | false => rw [(oZ a hw).1, (oZ a hw).2]; simp
  | true => obtain ⟨w1, w2, w3⟩ := Nc a b hw;have hl := s8 a hw;obtain ⟨i1, i2⟩ := ih (sE a) b ak;rw [(qw _ w1).1, (qw _ w1).2, (qw a hw).1, (qw a hw).2, w2, w3, i1, i2];simp
theorem Ia : ∀ (n : Nat) (a : List UInt8), a.length <= n -> (pB a).length <= a.length := by
 intro n;induction n with
 | zero => intro a h;have ha : a = [] := ff;subst ha;rw [(oZ [] rfl).2];exact Nat.le_refl _
 | succ n ih =>
  intro a h;cases hw : oO a with
  | false => rw [(oZ a hw).2]; exact Nat.le_refl _
  | true => have hl := s8 a hw;have := ih (sE a) ak;rw [(qw a hw).2]; omega
theorem DZ : ∀ (n : Nat) (a : List UInt8), a.length <= n -> (n9 a).length * 2 + (pB a).length <= a.length := by
 intro n;induction n with
 | zero => intro a h;have ha : a = [] := ff;subst ha;rw [(oZ [] rfl).1, (oZ [] rfl).2];simp
 | succ n ih =>
  intro a h;cases hw : oO a with
  | false => rw [(oZ a hw).1, (oZ a hw).2]; simp
  | true => have hl := s8 a hw;have := ih (sE a) ak;rw [(qw a hw).1, (qw a hw).2];simp; omega
theorem Bd {A W w1 : World} (h : Below A.heap.size A W) (b : Below W.heap.size W w1) : Below A.heap.size A w1 := h.trans (b.mono h.size)
theorem T4 {p q : Prop} (h : p) (f : p -> q) : p /\ q := ⟨h, f h⟩
theorem KX (g : Nat) (rest : List UInt8) (w : World) (h : sD w g rest false) (hl : rest.length <= maxLen) (h2 : 2 <= rest.length) :
  Calls prog 177 #[.pointer (some ⟨g, 0, none⟩), .int .i64 2] w (zC (.int .i64 (oE (rest.take 2))) g (rest.drop 2) false w) := by
 exact ky
theorem Ib (g : Nat) (pre post : List Value) (p : List UInt8) (w : World) (h : pA w g pre post p) (hp : p.length < 2) : Calls prog 174 #[.pointer (some ⟨g, 26, none⟩)] w (nM (.bool (oO p)) w) := by
 obtain ⟨last, ts, b0, b1, hpl, hk, hc, ht, h0, h1⟩ := h;have c1 := hk.nf 27 (Nb hpl);exact kx
theorem Nd (g : Nat) (pre post : List Value) (a b : UInt8) (p : List UInt8) (w : World) (h : pA w g pre post (a :: b :: p)) (hm : p.length <= 281474976710656) : Calls prog 174 #[.pointer (some ⟨g, 26, none⟩)] w (nM (.bool (oO (a :: b :: p))) w) := by
 obtain ⟨last, ts, b0, b1, hpl, hk, hc, ht, h0, h1⟩ := h;obtain rfl : b0 = a := h0 a rfl;obtain rfl : b1 = b := h1 b rfl;obtain ⟨n, hn⟩ : ∃ n : Int, n = ((b0 :: b1 :: p).length : Nat) := eE;rw [<- hn] at hk;have hn2 : (2 : Int) <= n := hU;have hn3 : n <= 281474976710658 := hU;have hd : decide ((2 : Int) <= n) = true := by simpa using hn2
 have HN := Hh hn;have hcv : ∀ W, Below w.heap.size w W -> W.cell? ⟨g, 27, none⟩ = some (.int .i64 n) /\ (convert 145 9 (.slice (some ⟨g, 28, none⟩) 2 2)).run prog W = .ok (.string (bs [b0, b1])) W := by
  intro W hW;have hB := hk.below hW hk.lt;refine ⟨hB.nf 27 (Nb hpl), run_convert_bytes_back W 145 9 5 ⟨g, 28, none⟩ 2 [b0, b1] underlying145 underlying5 underlying9 ?_⟩;intro j hj;have : j = 0 \/ j = 1 := iX;rcases this with rfl | rfl
  ·exact hB.nf 28 (Wl hpl)
  ·exact hB.nf 29 (Wm hpl)
 have HS := Hh hcv;have c1 := hk.nf 27 (Nb hpl);clear hcv hn hk hc ht h0 h1;go_enter func174, ntmps174;go_wp2_with fail;go_region_held3 (fun w' => Below w.heap.size w w' /\ w'.cell? ⟨g, 27, none⟩ = some (.int .i64 n) /\ (convert 145 9 (.slice (some ⟨g, 28, none⟩) 2 2)).run prog w' = .ok (.string (bs [b0, b1])) w') ((refine T4 ?_ (HS.out _); first | exact (Below.refl _ _).drew | exact Bd (And.left ‹Below w.heap.size w _ /\ _›) b3 | exact ng (And.left ‹Below w.heap.size w _ /\ _›) b4 (And.left ‹Below w.heap.size w _ /\ _›).size hg3))
  (first
   | (go_at_call 176; refine (tF [b0, b1] _).mono ?_; rintro e w3 ⟨rfl, h3, b3⟩; have hg3 := (And.left ‹Below w.heap.size w _ /\ _›).size)
   | (go_at_call 177; refine (KX _ [b0, b1] _ h3 (by simp [maxLen]) ag).mono ?_; rintro e w4 ⟨rfl, h4, b4⟩))
 exact jZ
theorem D5 (g : Nat) (pre post : List Value) (p : List UInt8) (w : World) (h : pA w g pre post p) (hm : p.length <= 281474976710656) : Calls prog 174 #[.pointer (some ⟨g, 26, none⟩)] w (nM (.bool (oO p)) w) := by
 rcases p with _ | ⟨a, p⟩
 ·exact Ib g pre post [] w h ag
 ·
  rcases p with _ | ⟨b, p⟩
  ·exact Ib g pre post [a] w h ag
  ·exact Nd g pre post a b p w h (by simp at hm; omega)
def s9 (n : Nat) (done : List UInt8) : List Value := oM (List.replicate (n - done.length) 0) ++ oM done
theorem Fk (n : Nat) (done : List UInt8) (h : done.length <= n) : (s9 n done).length = n := by simp [s9, oK]; omega
theorem JM (n : Nat) (t done : List UInt8) (h : t.length + done.length <= n) :
  (s9 n done).take (n - (t.length + done.length)) ++ oM t ++ (s9 n done).drop (n - (t.length + done.length) + t.length) = s9 n (t ++ done) := by
 have e1 : (s9 n done).take (n - (t.length + done.length)) = oM (List.replicate (n - (t.length + done.length)) 0) := by unfold s9;rw [List.take_append_of_le_length az];simp [oM, List.take_replicate];omega
 have e2 : (s9 n done).drop (n - (t.length + done.length) + t.length) = oM done := by unfold s9;rw [List.drop_append_of_le_length az, List.drop_of_length_le az, List.nil_append]
 rw [e1, e2];unfold s9;rw [uA, List.length_append, List.append_assoc]
theorem om.vU {w w' : World} (hk : ∀ g cs, nj w g 320 cs -> nj w' g 320 cs) : ∀ (ts : List (List UInt8)) (o : Option Nat), om w ts o -> om w' ts o := by
 intro ts;induction ts with
 | nil => intro o h; exact h
 | cons t rest ih => rintro o ⟨g, next, h1, h2, h3, h4⟩;exact ⟨g, next, h1, h2, hk g _ h3, ih next h4⟩
theorem nj.pk {w : World} {g g' : Nat} {t t' : TypeId} {cs cs' : List Value} (h : nj w g t cs) (h' : nj w g' t' cs') (hne : t ≠ t') : g ≠ g' := by
 rintro rfl;unfold nj at h h';rw [h] at h';injection h' with h';injection h' with _ ht;exact hne ht
def Ic (w : World) (g : Nat) (pre post : List Value) (p : List UInt8) (last : Option Nat) (b0 b1 : UInt8) (k : Option Nat) (ts : List (List UInt8)) (done : List UInt8) (wr : World) : Prop :=
 nj wr g 152 (JB pre post (.pointer (last.map fun k => ⟨k, 0, none⟩)) (.int .i64 p.length) (.int .u8 (b0.toNat : Int)) (.int .u8 (b1.toNat : Int))) /\ om wr ts k /\ tu ts ++ done = p /\
  nj wr w.heap.size 5 (s9 p.length done) /\ Below w.heap.size w wr
theorem Nf (g : Nat) (pre post : List Value) (p : List UInt8) (w : World) (h : pA w g pre post p) (hm : p.length <= 281474976710656) : Calls prog 175 #[.pointer (some ⟨g, 26, none⟩)] w (ui (.string (bs p)) g pre post [] w) := by
 obtain ⟨last, ts, b0, b1, hpl, hk, hc, ht, h0, h1⟩ := h;have c0 := hk.nf 26 (Rv hpl);have c1 := hk.nf 27 (Nb hpl);have hgl := hk.lt;have hmk := vF p.length hm;have hinv : Ic w g pre post p last b0 b1 last ts [] (w.alloc (.cells (oM (List.replicate p.length 0)).toArray 5)) :=
  ⟨hk.alloc _, om.alloc _ _ _ hc, by rw [ht, List.append_nil], by
   have := nj.new w 5 (oM (List.replicate p.length 0));simpa [s9, oM] using this, (Below.refl _ _).alloc (Nat.le_refl _) _⟩
 have HI := Hh hinv;clear hinv hc ht h0 h1 hk;go_enter func175, ntmps175;go_wp2_with fail;clear hmk c0 c1;go_loopw [4, 5] (fun at_ q wr => ∃ (k : Option Nat) (ts : List (List UInt8)) (done : List UInt8) (o : Option Addr), o = k.map (fun k => ⟨k, 0, none⟩) /\ at_ = .int .i64 ((p.length - done.length : Nat) : Int) /\ q = .pointer o /\ Ic w g pre post p last b0 b1 k ts done wr)
  (fun at_ _ _ => (intOf at_).toNat)
 case atStart => exact ⟨last, ts, [], _, rfl, ag, rfl, HI.out⟩
 case round =>
  clear HI;obtain ⟨k, ts, done, o, ho, rfl, rfl, q0, q1, q2, q3, q4⟩ := hrel;rcases ts with _ | ⟨t, rest⟩
  ·
   obtain rfl : k = none := q1;obtain rfl : o = none := ho;have hd : done = p := by simpa [tu] using q2
   subst hd;have c0 := q0.nf 26 (Rv hpl);have c1 := q0.nf 27 (Nb hpl);have c2 := q0.nf 28 (Wl hpl);have c3 := q0.nf 29 (Wm hpl);have f0 := q0.frozen 26;have f1 := q0.frozen 27;have f2 := q0.frozen 28;have f3 := q0.frozen 29;have hgn : g ≠ w.heap.size := ak;have hg4 : wr.grownBy ((((wr.setCell ⟨g, 26, none⟩ (.pointer none)).setCell ⟨g, 27, none⟩ (.int .i64 0)).setCell ⟨g, 28, none⟩ (.int .u8 0)).setCell ⟨g, 29, none⟩ (.int .u8 0)) (some g) := nT (nT (nT (nT (World.grownBy.refl _ _) 26 _) 27 _) 28 _) 29 _;have hk4 : nj ((((wr.setCell ⟨g, 26, none⟩ (.pointer none)).setCell ⟨g, 27, none⟩ (.int .i64 0)).setCell ⟨g, 28, none⟩ (.int .u8 0)).setCell ⟨g, 29, none⟩ (.int .u8 0)) g 152 (JB pre post (.pointer none) (.int .i64 0) (.int .u8 0) (.int .u8 0)) := WE hpl (WT hpl (WR hpl (WD hpl q0 (.pointer none)) (.int .i64 0)) (.int .u8 0)) (.int .u8 0);exact kh
  ·exact jJ
theorem pA.vU {w w' : World} {g : Nat} {pre post : List Value} {p : List UInt8} (hk : ∀ j t cs, t ≠ 9 -> nj w j t cs -> nj w' j t cs) (h : pA w g pre post p) : pA w' g pre post p := by
 exact lz
theorem pA.below {w w' : World} {g : Nat} {pre post : List Value} {p : List UInt8} (h : pA w g pre post p) (hb : Below w.heap.size w w') : pA w' g pre post p :=
 h.vU fun _ _ _ _ hj => hj.below hb hj.lt
theorem pA.grown {w w' : World} {g k : Nat} {pre post : List Value} {p : List UInt8} (h : pA w g pre post p) (hg : w.grownBy w' (some k)) {t : TypeId} {cs : List Value} (hk : nj w k t cs) (h1 : t ≠ 152) (h2 : t ≠ 320) : pA w' g pre post p := by
 exact kB
def Fl (g : Nat) (pre post : List Value) (fr : List (List UInt8)) (rest : List UInt8) (w : World) (e : Ending) (w' : World) : Prop := ∃ v, e = .returned v /\ pL w' v fr /\ pA w' g pre post rest /\ w.grownBy w' (some g)
def JN : Value -> Nat
 | .string s => s.size
 | _ => 0
theorem SI (g : Nat) (pre post : List Value) (p s : List UInt8) (w : World) (h : pA w g pre post p) (hb : p.length + s.length <= 281474976710656) (hw : oO (p ++ s) = false) :
  Calls prog 118 #[.pointer (some ⟨g, 26, none⟩), .string (bs s)] w (Fl g pre post (n9 (p ++ s)) (pB (p ++ s)) w) := by
 rw [(oZ _ hw).1, (oZ _ hw).2];have HW := Hh hw;clear hw;go_enter func118, ntmps118;go_wp2_with fail;refine (xZ g pre post p s w h hb).mono ?_;rintro e w1 ⟨rfl, h1, g1⟩;go_wp2_with fail;refine (D5 g pre post _ _ h1 aC).mono ?_;exact lK
def KY (w : World) (g : Nat) (pre post : List Value) (s : List UInt8) (r : List UInt8) (v : Value) (wr : World) : Prop :=
 ∃ done, pL wr v done /\ done.length + r.length <= s.length /\ pA wr g pre post [] /\ w.grownBy wr (some g) /\ (∀ k, v.ownBlock = some k -> w.heap.size <= k) /\ n9 s = done ++ n9 r /\ pB s = pB r
set_option maxHeartbeats 1000000 in
theorem P8 (g : Nat) (pre post : List Value) (p s : List UInt8) (w : World) (h : pA w g pre post p) (hb : p.length + s.length <= 8796093022208) (hw : oO (p ++ s) = true) :
  Calls prog 118 #[.pointer (some ⟨g, 26, none⟩), .string (bs s)] w (Fl g pre post (n9 (p ++ s)) (pB (p ++ s)) w) := by
 have HW := Hh hw;clear hw;have hls : (p ++ s).length <= 8796093022208 := aC;go_enter func118, ntmps118;go_wp2_with fail;refine (xZ g pre post p s w h ak).mono ?_;rintro e w1 ⟨rfl, h1, g1⟩;go_wp2_with fail;refine (D5 g pre post _ _ h1 ak).mono ?_;rw [HW.out];rintro e w2 ⟨rfl, b2⟩;have h2 := h1.below b2;have g2 := pj g1 b2;go_wp2_with fail;refine (Nf g pre post _ _ h2 ak).mono ?_;rintro e w3 ⟨rfl, h3, g3⟩;have g3' := ns g2 g3 (.inl rfl);generalize p ++ s = ps at *;clear h h1 h2 g1 g2 g3 b2 HW;clear w1 w2;have hinv : KY w g pre post ps ps (.slice none 0 0) w3 := gS;have HI := Hh hinv;clear hinv h3 g3';go_wp2_with fail;go_loopw [5, 6] (fun v q wr => ∃ r : List UInt8, q = .string (bs r) /\ KY w g pre post ps r v wr) (fun _ q _ => JN q)
 case atStart => exact ⟨ps, rfl, HI.out⟩
 case round =>
  clear HI;obtain ⟨r, rfl, done, t0, hdl, j0, f0, hob, e1, e2⟩ := hrel;have OB := Hh hob;clear hob;have E1 := Hh e1;have E2 := Hh e2;clear e1 e2;by_cases hlen : 2 <= r.length
  ·
   have hlen' : (2 : Int) <= r.length := ak;go_wp2_with fail;refine (tF r _).mono ?_;rintro e w4 ⟨rfl, y4, b4⟩;go_wp2_with fail;refine (KX _ r _ y4 aA hlen).mono ?_;rintro e w5 ⟨rfl, y5, g5⟩;have t5 : pL w5 u5 done := (t0.below b4).grown g5 y4 aj;have j5 : pA w5 g pre post [] := (j0.below b4).grown g5 y4 aj aj;have f5 : w.grownBy w5 (some g) := fR;have hlt5 : oE (r.take 2) < 65536 := xD _ 2 al;clear t0 j0 f0 b4 g5 y4 y5;clear w4;by_cases hwh : oE (r.take 2) <= r.length - 2
   ·have hwt : oO r = true := (sK r).2 ⟨hlen, hwh⟩;have F1 := Hh (qw r hwt);have hrl := s8 r hwt;have R1 := Hh (show sE r = r.drop (2 + oE (r.take 2)) from rfl);have M1 := Hh (show y8 r = (r.take (2 + oE (r.take 2))).drop 2 by rw [List.drop_take]; unfold y8; congr 1; omega);have hn1 : (oE (r.take 2) : Int) <= (r.length : Int) - 2 := ak;clear hwt;generalize oE (r.take 2) = n at *;go_wp2_with (at_builtin; go_must (refine zA _ rfl (.tmp 29) (.tmp 34) 25 rfl 9 (.string ⟨#[]⟩) 1 16 underlying25 zh rfl aj u5 done.length _ rfl (World.ownsRow.alloc t5 _) ⟨w5.heap.size, 0, none⟩ 1 1 [.string (bs ((r.take (2 + n)).drop 2))] rfl rfl (xB _ _ _ _ rfl) (wA rfl) aj aA ak ?_));intro gg cap w6 own6 g6 hat;have hkp := Di (World.ownsRow.alloc t5 (.cells #[.string (bs ((r.take (2 + n)).drop 2))] 9)) g6;have j6 : pA w6 g pre post [] := iU;exact jS
   ·
    have hno : oO r = false := by exact lP
    have hn1 : (r.length : Int) - 2 < (oE (r.take 2) : Int) := ak;go_wp2_with fail;refine (tH r _ ak).mono ?_;rintro e w6 ⟨rfl, b6⟩;go_wp2_with fail;refine (xZ g pre post [] r _ (j5.below b6) al).mono ?_;exact jO
  ·
   have hno : oO r = false := by exact lP
   have hlen' : ¬ (2 : Int) <= r.length := ak;have t5 := t0;have j5 := j0;have f5 := f0;go_wp2_with fail;refine (tH r _ ak).mono ?_;rintro e w6 ⟨rfl, b6⟩;go_wp2_with fail;refine (xZ g pre post [] r _ (j5.below b6) al).mono ?_;exact jO
theorem P9 (g : Nat) (pre post : List Value) (p s : List UInt8) (w : World) (h : pA w g pre post p) (hb : p.length + s.length <= 8796093022208) :
  Calls prog 118 #[.pointer (some ⟨g, 26, none⟩), .string (bs s)] w (Fl g pre post (n9 (p ++ s)) (pB (p ++ s)) w) := by
 cases hw : oO (p ++ s) with
 | false => exact SI g pre post p s w h ak hw
 | true => exact P8 g pre post p s w h hb hw
theorem Fm (s : List UInt8) (w : World) (h : s.length <= 65535) : Calls prog 75 #[.string (bs s)] w (nM (.tuple #[.string (bs (ny 2 s.length ++ s)), .int .i64 0]) w) := by
 have h' : (s.length : Int) <= 65535 := ak;have hl := np 2 (s.length : Int);go_enter func75, ntmps75;go_wp2_with fail;refine (pg _ _ _).mono ?_;rintro e w1 ⟨rfl, b1⟩;rw [show hw 2 = 2 from rfl];generalize ny 2 (s.length : Int) = p at *;have hp : p.length <= 2 := ak;clear hl;go_wp2_with fail;go_ret2;exact nM.mk rfl b1
end Go.Proofs.YthnbcmlnpdabhaaGreat
