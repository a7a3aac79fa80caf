/-
  Layer 15 (stream): what a Joiner keeps (the Joiner has a block of its own).
-/
import Derived.Test.YthnbcmlnpdabhaaGreatHVq
namespace Go.Proofs.YthnbcmlnpdabhaaGreat
open _root_.Go.Proofs.Tryz
open Go.RowKit
set_option maxRecDepth 100000
set_option linter.unusedVariables false
set_option linter.unusedSimpArgs false
theorem om.U8 {w w' : World} {j : Nat} {cs : List Value} (hj : nj w j 150 cs) (hg : w.grownBy w' (some j)) : ∀ (ts : List (List UInt8)) (o : Option Nat), om w ts o -> om w' ts o := by
 intro ts;induction ts with
 | nil => intro o h; exact h
 | cons t rest ih => exact kI
theorem om.QW {w : World} {j : Nat} {cs : List Value} (hj : nj w j 150 cs) (i : Nat) (u : Value) (ts : List (List UInt8)) (o : Option Nat) (h : om w ts o) : om (w.setCell ⟨j, i, none⟩ u) ts o :=
 om.U8 hj (nT (World.grownBy.refl _ _) i u) ts o h
section
variable {pre post : List Value} {a b c d : Value} (h : pre.length = 0)
include h
theorem CZ : (JB pre post a b c d)[0]? = some a := by unfold JB; rw [List.getElem?_append_right ak, h]; rfl
theorem yN : (JB pre post a b c d)[1]? = some b := by unfold JB; rw [List.getElem?_append_right ak, h]; rfl
theorem Tp : (JB pre post a b c d)[2]? = some c := by unfold JB; rw [List.getElem?_append_right ak, h]; rfl
theorem Tq : (JB pre post a b c d)[3]? = some d := by unfold JB; rw [List.getElem?_append_right ak, h]; rfl
variable {w : World} {g : Nat} {t : TypeId}
theorem U9 (k : nj w g t (JB pre post a b c d)) (x : Value) : nj (w.setCell ⟨g, 0, none⟩ x) g t (JB pre post x b c d) := by have := k.set 0 x; unfold JB at this ⊢; rwa [List.set_append_right _ _ ak, h] at this
theorem Wa (k : nj w g t (JB pre post a b c d)) (x : Value) : nj (w.setCell ⟨g, 1, none⟩ x) g t (JB pre post a x c d) := by have := k.set 1 x; unfold JB at this ⊢; rwa [List.set_append_right _ _ ak, h] at this
theorem Wb (k : nj w g t (JB pre post a b c d)) (x : Value) : nj (w.setCell ⟨g, 2, none⟩ x) g t (JB pre post a b x d) := by have := k.set 2 x; unfold JB at this ⊢; rwa [List.set_append_right _ _ ak, h] at this
theorem Va (k : nj w g t (JB pre post a b c d)) (x : Value) : nj (w.setCell ⟨g, 3, none⟩ x) g t (JB pre post a b c x) := by have := k.set 3 x; unfold JB at this ⊢; rwa [List.set_append_right _ _ ak, h] at this
end
def oB (w : World) (g : Nat) (pre post : List Value) (p : List UInt8) : Prop :=
 ∃ (last : Option Nat) (ts : List (List UInt8)) (b0 b1 : UInt8), pre.length = 0 /\ nj w g 150 (JB pre post (.pointer (last.map fun k => ⟨k, 0, none⟩)) (.int .i64 p.length) (.int .u8 (b0.toNat : Int)) (.int .u8 (b1.toNat : Int))) /\
  om w ts last /\ tu ts = p /\ (∀ x, p[0]? = some x -> b0 = x) /\ (∀ x, p[1]? = some x -> b1 = x)
def tj (v : Value) (g : Nat) (pre post : List Value) (p : List UInt8) (w : World) (e : Ending) (w' : World) : Prop := e = .returned v /\ oB w' g pre post p /\ w.grownBy w' (some g)
theorem NQ (g : Nat) (pre post : List Value) (p : List UInt8) (w : World) (h : oB w g pre post p) : Calls prog 173 #[.pointer (some ⟨g, 0, none⟩), .string (bs [])] w (tj (.tuple #[]) g pre post (p ++ []) w) := by
 exact lJ
theorem zx {w W : World} {g : Nat} {pre post : List Value} (hpl : pre.length = 0) {p s : List UInt8} {last : Option Nat} {ts : List (List UInt8)} {b0 b1 : UInt8} (hk : nj W g 150 (JB pre post (.pointer (last.map fun k => ⟨k, 0, none⟩)) (.int .i64 p.length) (.int .u8 (b0.toNat : Int)) (.int .u8 (b1.toNat : Int))))
  (hc : om W ts last) (ht : tu ts = p) (hs : s ≠ []) (h0 : ∀ x, (p ++ s)[0]? = some x -> b0 = x) (h1 : ∀ x, (p ++ s)[1]? = some x -> b1 = x) (hg : w.grownBy W (some g)) (n : Int) (hn : n = (p.length : Int) + s.length) :
  tj (.tuple #[]) g pre post (p ++ s) w (.returned (.tuple #[])) (((W.setCell ⟨g, 0, none⟩ (.pointer (some ⟨W.heap.size, 0, none⟩))).setCell ⟨g, 1, none⟩ (.int .i64 n)).alloc (.cells #[.string (bs s), .pointer (last.map fun k => ⟨k, 0, none⟩)] 320)) := by
 subst hn;have hk1 := Wa hpl (U9 hpl hk (.pointer (some ⟨W.heap.size, 0, none⟩))) (.int .i64 (p.length + s.length));refine ⟨rfl, ⟨some W.heap.size, s :: ts, b0, b1, hpl, ?_, ⟨W.heap.size, last, rfl, hs, ?_, ?_⟩, ?_, h0, h1⟩, ?_⟩
 ·exact lV
 ·exact mo
 ·exact om.alloc _ _ _ (om.QW (U9 hpl hk _) 1 _ _ _ (om.QW hk 0 _ _ _ hc))
 ·rw [vT, ht]
 ·exact rX (nT (nT hg 0 _) 1 _) _
theorem NR (g : Nat) (pre post : List Value) (p s : List UInt8) (w : World) (h : oB w g pre post p) (hp : 2 <= p.length) (hs : s ≠ []) (hb : p.length + s.length <= 281474976710656) :
  Calls prog 173 #[.pointer (some ⟨g, 0, none⟩), .string (bs s)] w (tj (.tuple #[]) g pre post (p ++ s) w) := by
 obtain ⟨last, ts, b0, b1, hpl, hk, hc, ht, h0, h1⟩ := h;have c0 := hk.nf 0 (CZ hpl);have c1 := hk.nf 1 (yN hpl);have f0 := hk.frozen 0;have f1 := hk.frozen 1;have hse : (s == []) = false := iB;have hp' : ¬ (p.length : Int) < 2 := ak;have hgl := hk.lt;go_enter func173, ntmps173;go_wp2_with fail;refine wp_loop_rounds 1 ?_;rw [rounds_succ];go_wp2_with fail;go_end0;exact zx hpl hk hc ht hs (fun x hx => h0 x (by rwa [List.getElem?_append_left ak] at hx)) (fun x hx => h1 x (by rwa [List.getElem?_append_left ak] at hx)) (World.grownBy.refl _ _) _ rfl
theorem NS (g : Nat) (pre post : List Value) (c a : UInt8) (s : List UInt8) (w : World) (h : oB w g pre post [c]) (hb : s.length + 2 <= 281474976710656) :
  Calls prog 173 #[.pointer (some ⟨g, 0, none⟩), .string (bs (a :: s))] w (tj (.tuple #[]) g pre post ([c] ++ (a :: s)) w) := by
 obtain ⟨last, ts, b0, b1, hpl, hk, hc, ht, h0, h1⟩ := h;have c0 := hk.nf 0 (CZ hpl);have c1 := hk.nf 1 (yN hpl);have c3 := hk.nf 3 (Tq hpl);have f3 := hk.frozen 3;have hgl := hk.lt;rw [show (([c].length : Nat) : Int) = 1 from rfl] at c1;go_enter func173, ntmps173;go_wp2_with fail;refine wp_loop_rounds 2 ?_;rw [rounds_succ];go_wp2_with fail;go_region;go_wp2_with fail;obtain ⟨W, hW⟩ : ∃ W, W = (w.setCell ⟨g, 3, none⟩ (.int .u8 (a.toNat : Int))).drew := eE;rw [<- hW];have hk1 : nj W g 150 (JB pre post (.pointer (last.map fun k => ⟨k, 0, none⟩)) (.int .i64 ([c].length : Nat)) (.int .u8 (b0.toNat : Int)) (.int .u8 (a.toNat : Int))) := hW ▸ (Va hpl hk (.int .u8 (a.toNat : Int))).drew;have hc1 : om W ts last := hW ▸ om.drew _ _ (om.QW hk 3 _ _ _ hc);have hg1 : w.grownBy W (some g) := hW ▸ qK (nT (World.grownBy.refl _ _) 3 _);clear hW c0 c1 c3 f3 hgl hk hc;have c0 := hk1.nf 0 (CZ hpl);have c1 := hk1.nf 1 (yN hpl);have f0 := hk1.frozen 0;have f1 := hk1.frozen 1;have hgl := hk1.lt;rw [show (([c].length : Nat) : Int) = 1 from rfl] at c1;rw [rounds_succ];go_wp2_with fail;go_end0;exact zx hpl (s := a :: s) hk1 hc1 ht ag (fun x hx => h0 x (by simpa using hx)) (fun x hx => by simpa using hx) hg1 _ ag
theorem IG (g : Nat) (pre post : List Value) (a : UInt8) (w : World) (h : oB w g pre post []) :
  Calls prog 173 #[.pointer (some ⟨g, 0, none⟩), .string (bs [a])] w (tj (.tuple #[]) g pre post ([] ++ [a]) w) := by
 obtain ⟨last, ts, b0, b1, hpl, hk, hc, ht, h0, h1⟩ := h;have c0 := hk.nf 0 (CZ hpl);have c1 := hk.nf 1 (yN hpl);have c2 := hk.nf 2 (Tp hpl);have f2 := hk.frozen 2;have hgl := hk.lt;rw [show ((([] : List UInt8).length : Nat) : Int) = 0 from rfl] at c1;go_enter func173, ntmps173;go_wp2_with fail;refine wp_loop_rounds 2 ?_;rw [rounds_succ];go_wp2_with fail;go_region;go_wp2_with fail;obtain ⟨W, hW⟩ : ∃ W, W = (w.setCell ⟨g, 2, none⟩ (.int .u8 (a.toNat : Int))).drew := eE;rw [<- hW];have hk1 : nj W g 150 (JB pre post (.pointer (last.map fun k => ⟨k, 0, none⟩)) (.int .i64 (([] : List UInt8).length : Nat)) (.int .u8 (a.toNat : Int)) (.int .u8 (b1.toNat : Int))) := iN;have hc1 : om W ts last := iV;have hg1 : w.grownBy W (some g) := iz;clear hW c0 c1 c2 f2 hgl hk hc;have c0 := hk1.nf 0 (CZ hpl);have c1 := hk1.nf 1 (yN hpl);have f0 := hk1.frozen 0;have f1 := hk1.frozen 1;have hgl := hk1.lt;rw [show ((([] : List UInt8).length : Nat) : Int) = 0 from rfl] at c1;rw [rounds_succ];go_wp2_with fail;go_end0;exact zx hpl (s := [a]) hk1 hc1 ht ag (fun x hx => by simpa using hx) (fun x hx => by simp at hx) hg1 _ ag
theorem II (g : Nat) (pre post : List Value) (a b : UInt8) (s : List UInt8) (w : World) (h : oB w g pre post []) (hb : s.length + 2 <= 281474976710656) :
  Calls prog 173 #[.pointer (some ⟨g, 0, none⟩), .string (bs (a :: b :: s))] w (tj (.tuple #[]) g pre post ([] ++ (a :: b :: s)) w) := by
 obtain ⟨last, ts, b0, b1, hpl, hk, hc, ht, h0, h1⟩ := h;have c0 := hk.nf 0 (CZ hpl);have c1 := hk.nf 1 (yN hpl);have c2 := hk.nf 2 (Tp hpl);have f2 := hk.frozen 2;have hgl := hk.lt;rw [show ((([] : List UInt8).length : Nat) : Int) = 0 from rfl] at c1;go_enter func173, ntmps173;go_wp2_with fail;refine wp_loop_rounds 3 ?_;rw [rounds_succ];go_wp2_with fail;go_region;go_wp2_with fail;obtain ⟨W, hW⟩ : ∃ W, W = (w.setCell ⟨g, 2, none⟩ (.int .u8 (a.toNat : Int))).drew := eE;rw [<- hW];have hk1 : nj W g 150 (JB pre post (.pointer (last.map fun k => ⟨k, 0, none⟩)) (.int .i64 (([] : List UInt8).length : Nat)) (.int .u8 (a.toNat : Int)) (.int .u8 (b1.toNat : Int))) := iN;have hc1 : om W ts last := iV;have hg1 : w.grownBy W (some g) := iz;clear hW c0 c1 c2 f2 hgl hk hc;have c0 := hk1.nf 0 (CZ hpl);have c1 := hk1.nf 1 (yN hpl);have f0 := hk1.frozen 0;have f1 := hk1.frozen 1;have hgl := hk1.lt;have c3 := hk1.nf 3 (Tq hpl);have f3 := hk1.frozen 3;rw [show ((([] : List UInt8).length : Nat) : Int) = 0 from rfl] at c1;rw [rounds_succ];go_wp2_with fail;go_region;go_wp2_with fail;obtain ⟨V, hV⟩ : ∃ V, V = (W.setCell ⟨g, 3, none⟩ (.int .u8 (b.toNat : Int))).drew := eE;rw [<- hV];have hk2 : nj V g 150 (JB pre post (.pointer (last.map fun k => ⟨k, 0, none⟩)) (.int .i64 (([] : List UInt8).length : Nat)) (.int .u8 (a.toNat : Int)) (.int .u8 (b.toNat : Int))) := hV ▸ (Va hpl hk1 (.int .u8 (b.toNat : Int))).drew;have hc2 : om V ts last := hV ▸ om.drew _ _ (om.QW hk1 3 _ _ _ hc1);have hg2 : w.grownBy V (some g) := hV ▸ qK (nT hg1 3 _);clear hV c0 c1 c3 f0 f1 f3 hgl hk1 hc1 hg1;have c0 := hk2.nf 0 (CZ hpl);have c1 := hk2.nf 1 (yN hpl);have f0 := hk2.frozen 0;have f1 := hk2.frozen 1;have hgl := hk2.lt;rw [show ((([] : List UInt8).length : Nat) : Int) = 0 from rfl] at c1;rw [rounds_succ];go_wp2_with fail;go_end0;exact zx hpl (s := a :: b :: s) hk2 hc2 ht ag (fun x hx => by simpa using hx) (fun x hx => by simpa using hx) hg2 _ ag
theorem wT (g : Nat) (pre post : List Value) (p s : List UInt8) (w : World) (h : oB w g pre post p) (hb : p.length + s.length <= 281474976710656) :
  Calls prog 173 #[.pointer (some ⟨g, 0, none⟩), .string (bs s)] w (tj (.tuple #[]) g pre post (p ++ s) w) := by
 rcases s with _ | ⟨a, s⟩
 ·exact NQ g pre post p w h
 ·
  rcases p with _ | ⟨c, p⟩
  ·
   rcases s with _ | ⟨b, s⟩
   ·exact IG g pre post a w h
   ·exact II g pre post a b s w h aC
  ·
   rcases p with _ | ⟨d, p⟩
   ·exact NS g pre post c a s w h (by simp at hb; omega)
   ·exact NR g pre post _ _ w h ag ag hb
theorem En (g : Nat) (pre post : List Value) (p : List UInt8) (w : World) (h : oB w g pre post p) (hp : p.length < 2) : Calls prog 174 #[.pointer (some ⟨g, 0, none⟩)] w (nM (.bool (oO p)) w) := by
 obtain ⟨last, ts, b0, b1, hpl, hk, hc, ht, h0, h1⟩ := h;have c1 := hk.nf 1 (yN hpl);exact kx
theorem Km (g : Nat) (pre post : List Value) (a b : UInt8) (p : List UInt8) (w : World) (h : oB w g pre post (a :: b :: p)) (hm : p.length <= 281474976710656) : Calls prog 174 #[.pointer (some ⟨g, 0, none⟩)] w (nM (.bool (oO (a :: b :: p))) w) := by
 obtain ⟨last, ts, b0, b1, hpl, hk, hc, ht, h0, h1⟩ := h;obtain rfl : b0 = a := h0 a rfl;obtain rfl : b1 = b := h1 b rfl;obtain ⟨n, hn⟩ : ∃ n : Int, n = ((b0 :: b1 :: p).length : Nat) := eE;rw [<- hn] at hk;have hn2 : (2 : Int) <= n := hU;have hn3 : n <= 281474976710658 := hU;have hd : decide ((2 : Int) <= n) = true := by simpa using hn2
 have HN := Hh hn;have hcv : ∀ W, Below w.heap.size w W -> W.cell? ⟨g, 1, none⟩ = some (.int .i64 n) /\ (convert 145 9 (.slice (some ⟨g, 2, none⟩) 2 2)).run prog W = .ok (.string (bs [b0, b1])) W := by
  intro W hW;have hB := hk.below hW hk.lt;refine ⟨hB.nf 1 (yN hpl), run_convert_bytes_back W 145 9 5 ⟨g, 2, none⟩ 2 [b0, b1] underlying145 underlying5 underlying9 ?_⟩;intro j hj;have : j = 0 \/ j = 1 := iX;rcases this with rfl | rfl
  ·exact hB.nf 2 (Tp hpl)
  ·exact hB.nf 3 (Tq hpl)
 have HS := Hh hcv;have c1 := hk.nf 1 (yN hpl);clear hcv hn hk hc ht h0 h1;go_enter func174, ntmps174;go_wp2_with fail;go_region_held3 (fun w' => Below w.heap.size w w' /\ w'.cell? ⟨g, 1, none⟩ = some (.int .i64 n) /\ (convert 145 9 (.slice (some ⟨g, 2, none⟩) 2 2)).run prog w' = .ok (.string (bs [b0, b1])) w') ((refine T4 ?_ (HS.out _); first | exact (Below.refl _ _).drew | exact Bd (And.left ‹Below w.heap.size w _ /\ _›) b3 | exact ng (And.left ‹Below w.heap.size w _ /\ _›) b4 (And.left ‹Below w.heap.size w _ /\ _›).size hg3))
  (first
   | (go_at_call 176; refine (tF [b0, b1] _).mono ?_; rintro e w3 ⟨rfl, h3, b3⟩; have hg3 := (And.left ‹Below w.heap.size w _ /\ _›).size)
   | (go_at_call 177; refine (KX _ [b0, b1] _ h3 (by simp [maxLen]) ag).mono ?_; rintro e w4 ⟨rfl, h4, b4⟩))
 exact jZ
theorem Cf (g : Nat) (pre post : List Value) (p : List UInt8) (w : World) (h : oB w g pre post p) (hm : p.length <= 281474976710656) : Calls prog 174 #[.pointer (some ⟨g, 0, none⟩)] w (nM (.bool (oO p)) w) := by
 rcases p with _ | ⟨a, p⟩
 ·exact En g pre post [] w h ag
 ·
  rcases p with _ | ⟨b, p⟩
  ·exact En g pre post [a] w h ag
  ·exact Km g pre post a b p w h (by simp at hm; omega)
def Eo (w : World) (g : Nat) (pre post : List Value) (p : List UInt8) (last : Option Nat) (b0 b1 : UInt8) (k : Option Nat) (ts : List (List UInt8)) (done : List UInt8) (wr : World) : Prop :=
 nj wr g 150 (JB pre post (.pointer (last.map fun k => ⟨k, 0, none⟩)) (.int .i64 p.length) (.int .u8 (b0.toNat : Int)) (.int .u8 (b1.toNat : Int))) /\ om wr ts k /\ tu ts ++ done = p /\
  nj wr w.heap.size 5 (s9 p.length done) /\ Below w.heap.size w wr
theorem Kn (g : Nat) (pre post : List Value) (p : List UInt8) (w : World) (h : oB w g pre post p) (hm : p.length <= 281474976710656) : Calls prog 175 #[.pointer (some ⟨g, 0, none⟩)] w (tj (.string (bs p)) g pre post [] w) := by
 obtain ⟨last, ts, b0, b1, hpl, hk, hc, ht, h0, h1⟩ := h;have c0 := hk.nf 0 (CZ hpl);have c1 := hk.nf 1 (yN hpl);have hgl := hk.lt;have hmk := vF p.length hm;have hinv : Eo w g pre post p last b0 b1 last ts [] (w.alloc (.cells (oM (List.replicate p.length 0)).toArray 5)) :=
  ⟨hk.alloc _, om.alloc _ _ _ hc, by rw [ht, List.append_nil], by
   have := nj.new w 5 (oM (List.replicate p.length 0));simpa [s9, oM] using this, (Below.refl _ _).alloc (Nat.le_refl _) _⟩
 have HI := Hh hinv;clear hinv hc ht h0 h1 hk;go_enter func175, ntmps175;go_wp2_with fail;clear hmk c0 c1;go_loopw [4, 5] (fun at_ q wr => ∃ (k : Option Nat) (ts : List (List UInt8)) (done : List UInt8) (o : Option Addr), o = k.map (fun k => ⟨k, 0, none⟩) /\ at_ = .int .i64 ((p.length - done.length : Nat) : Int) /\ q = .pointer o /\ Eo w g pre post p last b0 b1 k ts done wr)
  (fun at_ _ _ => (intOf at_).toNat)
 case atStart => exact ⟨last, ts, [], _, rfl, ag, rfl, HI.out⟩
 case round =>
  clear HI;obtain ⟨k, ts, done, o, ho, rfl, rfl, q0, q1, q2, q3, q4⟩ := hrel;rcases ts with _ | ⟨t, rest⟩
  ·
   obtain rfl : k = none := q1;obtain rfl : o = none := ho;have hd : done = p := by simpa [tu] using q2
   subst hd;have c0 := q0.nf 0 (CZ hpl);have c1 := q0.nf 1 (yN hpl);have c2 := q0.nf 2 (Tp hpl);have c3 := q0.nf 3 (Tq hpl);have f0 := q0.frozen 0;have f1 := q0.frozen 1;have f2 := q0.frozen 2;have f3 := q0.frozen 3;have hgn : g ≠ w.heap.size := ak;have hg4 : wr.grownBy ((((wr.setCell ⟨g, 0, none⟩ (.pointer none)).setCell ⟨g, 1, none⟩ (.int .i64 0)).setCell ⟨g, 2, none⟩ (.int .u8 0)).setCell ⟨g, 3, none⟩ (.int .u8 0)) (some g) := nT (nT (nT (nT (World.grownBy.refl _ _) 0 _) 1 _) 2 _) 3 _;have hk4 : nj ((((wr.setCell ⟨g, 0, none⟩ (.pointer none)).setCell ⟨g, 1, none⟩ (.int .i64 0)).setCell ⟨g, 2, none⟩ (.int .u8 0)).setCell ⟨g, 3, none⟩ (.int .u8 0)) g 150 (JB pre post (.pointer none) (.int .i64 0) (.int .u8 0) (.int .u8 0)) := Va hpl (Wb hpl (Wa hpl (U9 hpl q0 (.pointer none)) (.int .i64 0)) (.int .u8 0)) (.int .u8 0);exact kh
  ·exact jJ
theorem oB.vU {w w' : World} {g : Nat} {pre post : List Value} {p : List UInt8} (hk : ∀ j t cs, t ≠ 9 -> nj w j t cs -> nj w' j t cs) (h : oB w g pre post p) : oB w' g pre post p := by
 exact lz
theorem oB.below {w w' : World} {g : Nat} {pre post : List Value} {p : List UInt8} (h : oB w g pre post p) (hb : Below w.heap.size w w') : oB w' g pre post p :=
 h.vU fun _ _ _ _ hj => hj.below hb hj.lt
theorem oB.grown {w w' : World} {g k : Nat} {pre post : List Value} {p : List UInt8} (h : oB w g pre post p) (hg : w.grownBy w' (some k)) {t : TypeId} {cs : List Value} (hk : nj w k t cs) (h1 : t ≠ 150) (h2 : t ≠ 320) : oB w' g pre post p := by
 exact kB
def Cg (g : Nat) (pre post : List Value) (fr : List (List UInt8)) (rest : List UInt8) (w : World) (e : Ending) (w' : World) : Prop := ∃ v, e = .returned v /\ pL w' v fr /\ oB w' g pre post rest /\ w.grownBy w' (some g)
theorem QX (g : Nat) (pre post : List Value) (p s : List UInt8) (w : World) (h : oB w g pre post p) (hb : p.length + s.length <= 281474976710656) (hw : oO (p ++ s) = false) :
  Calls prog 118 #[.pointer (some ⟨g, 0, none⟩), .string (bs s)] w (Cg g pre post (n9 (p ++ s)) (pB (p ++ s)) w) := by
 rw [(oZ _ hw).1, (oZ _ hw).2];have HW := Hh hw;clear hw;go_enter func118, ntmps118;go_wp2_with fail;refine (wT g pre post p s w h hb).mono ?_;rintro e w1 ⟨rfl, h1, g1⟩;go_wp2_with fail;refine (Cf g pre post _ _ h1 aC).mono ?_;exact lK
def IJ (w : World) (g : Nat) (pre post : List Value) (s : List UInt8) (r : List UInt8) (v : Value) (wr : World) : Prop :=
 ∃ done, pL wr v done /\ done.length + r.length <= s.length /\ oB wr g pre post [] /\ w.grownBy wr (some g) /\ (∀ k, v.ownBlock = some k -> w.heap.size <= k) /\ n9 s = done ++ n9 r /\ pB s = pB r
set_option maxHeartbeats 1000000 in
theorem NT (g : Nat) (pre post : List Value) (p s : List UInt8) (w : World) (h : oB w g pre post p) (hb : p.length + s.length <= 8796093022208) (hw : oO (p ++ s) = true) :
  Calls prog 118 #[.pointer (some ⟨g, 0, none⟩), .string (bs s)] w (Cg g pre post (n9 (p ++ s)) (pB (p ++ s)) w) := by
 have HW := Hh hw;clear hw;have hls : (p ++ s).length <= 8796093022208 := aC;go_enter func118, ntmps118;go_wp2_with fail;refine (wT g pre post p s w h ak).mono ?_;rintro e w1 ⟨rfl, h1, g1⟩;go_wp2_with fail;refine (Cf g pre post _ _ h1 ak).mono ?_;rw [HW.out];rintro e w2 ⟨rfl, b2⟩;have h2 := h1.below b2;have g2 := pj g1 b2;go_wp2_with fail;refine (Kn g pre post _ _ h2 ak).mono ?_;rintro e w3 ⟨rfl, h3, g3⟩;have g3' := ns g2 g3 (.inl rfl);generalize p ++ s = ps at *;clear h h1 h2 g1 g2 g3 b2 HW;clear w1 w2;have hinv : IJ w g pre post ps ps (.slice none 0 0) w3 := gS;have HI := Hh hinv;clear hinv h3 g3';go_wp2_with fail;go_loopw [5, 6] (fun v q wr => ∃ r : List UInt8, q = .string (bs r) /\ IJ w g pre post ps r v wr) (fun _ q _ => JN q)
 case atStart => exact ⟨ps, rfl, HI.out⟩
 case round =>
  clear HI;obtain ⟨r, rfl, done, t0, hdl, j0, f0, hob, e1, e2⟩ := hrel;have OB := Hh hob;clear hob;have E1 := Hh e1;have E2 := Hh e2;clear e1 e2;by_cases hlen : 2 <= r.length
  ·
   have hlen' : (2 : Int) <= r.length := ak;go_wp2_with fail;refine (tF r _).mono ?_;rintro e w4 ⟨rfl, y4, b4⟩;go_wp2_with fail;refine (KX _ r _ y4 aA hlen).mono ?_;rintro e w5 ⟨rfl, y5, g5⟩;have t5 : pL w5 u5 done := (t0.below b4).grown g5 y4 aj;have j5 : oB w5 g pre post [] := (j0.below b4).grown g5 y4 aj aj;have f5 : w.grownBy w5 (some g) := fR;have hlt5 : oE (r.take 2) < 65536 := xD _ 2 al;clear t0 j0 f0 b4 g5 y4 y5;clear w4;by_cases hwh : oE (r.take 2) <= r.length - 2
   ·have hwt : oO r = true := (sK r).2 ⟨hlen, hwh⟩;have F1 := Hh (qw r hwt);have hrl := s8 r hwt;have R1 := Hh (show sE r = r.drop (2 + oE (r.take 2)) from rfl);have M1 := Hh (show y8 r = (r.take (2 + oE (r.take 2))).drop 2 by rw [List.drop_take]; unfold y8; congr 1; omega);have hn1 : (oE (r.take 2) : Int) <= (r.length : Int) - 2 := ak;clear hwt;generalize oE (r.take 2) = n at *;go_wp2_with (at_builtin; go_must (refine zA _ rfl (.tmp 29) (.tmp 34) 25 rfl 9 (.string ⟨#[]⟩) 1 16 underlying25 zh rfl aj u5 done.length _ rfl (World.ownsRow.alloc t5 _) ⟨w5.heap.size, 0, none⟩ 1 1 [.string (bs ((r.take (2 + n)).drop 2))] rfl rfl (xB _ _ _ _ rfl) (wA rfl) aj aA ak ?_));intro gg cap w6 own6 g6 hat;have hkp := Di (World.ownsRow.alloc t5 (.cells #[.string (bs ((r.take (2 + n)).drop 2))] 9)) g6;have j6 : oB w6 g pre post [] := iU;exact jS
   ·
    have hno : oO r = false := by exact lP
    have hn1 : (r.length : Int) - 2 < (oE (r.take 2) : Int) := ak;go_wp2_with fail;refine (tH r _ ak).mono ?_;rintro e w6 ⟨rfl, b6⟩;go_wp2_with fail;refine (wT g pre post [] r _ (j5.below b6) al).mono ?_;exact jO
  ·
   have hno : oO r = false := by exact lP
   have hlen' : ¬ (2 : Int) <= r.length := ak;have t5 := t0;have j5 := j0;have f5 := f0;go_wp2_with fail;refine (tH r _ ak).mono ?_;rintro e w6 ⟨rfl, b6⟩;go_wp2_with fail;refine (wT g pre post [] r _ (j5.below b6) al).mono ?_;exact jO
theorem NU (g : Nat) (pre post : List Value) (p s : List UInt8) (w : World) (h : oB w g pre post p) (hb : p.length + s.length <= 8796093022208) :
  Calls prog 118 #[.pointer (some ⟨g, 0, none⟩), .string (bs s)] w (Cg g pre post (n9 (p ++ s)) (pB (p ++ s)) w) := by
 cases hw : oO (p ++ s) with
 | false => exact QX g pre post p s w h ak hw
 | true => exact NT g pre post p s w h hb hw
end Go.Proofs.YthnbcmlnpdabhaaGreat
