/-
  Layer 30 (judge): frames; what looking has, in memory.
-/
import Derived.Test.YthnbcmlnpdabhaaGreatJAq
import Derived.Test.YthnbcmlnpdabhaaGreatILq
import Derived.Test.YthnbcmlnpdabhaaGreatJBq
namespace Go.Proofs.YthnbcmlnpdabhaaGreat
open _root_.Go.Proofs.Tryz
open Go.RowKit
set_option maxRecDepth 100000
set_option linter.unusedVariables false
set_option linter.unusedSimpArgs false
def Cw (t : TypeId) : Prop := t = 194 \/ t = 180 \/ t = 3 \/ t = 4 \/ t = 150
def NV (t : TypeId) : Prop := False
def Ge (t : TypeId) : Prop := t = 42
def Gf (t : TypeId) : Prop := t = 42 \/ t = 37
structure pT (p : TypeId -> Prop) (B : Nat) (S : Nat -> Prop) (w w' : World) : Prop where
 os : w'.os = w.os
 tape : w'.tape = w.tape
 output : w'.output = w.output
 size : w.heap.size <= w'.heap.size
 block : ∀ i, i < w.heap.size -> w'.heap[i]? = w.heap[i]? \/ ∃ t cs, nj w i t cs /\ ((S i /\ Cw t) \/ (B <= i /\ p t))
section
variable {p p' : TypeId -> Prop} {B : Nat} {S S' : Nat -> Prop} {w w' a b c : World}
theorem pT.trans (h : pT p B S a b) (k : pT p B S' b c) (hS : ∀ i, i < a.heap.size -> S' i -> S i) : pT p B S a c :=
 ⟨k.os.trans h.os, k.tape.trans h.tape, k.output.trans h.output, Nat.le_trans h.size k.size, fun i hi => by
  rcases h.block i hi with e | e
  ·
   rcases k.block i (Nat.lt_of_lt_of_le hi h.size) with e' | ⟨t, cs, hb, h'⟩
   ·exact .inl (e'.trans e)
   ·exact .inr ⟨t, cs, e.symm.trans hb, h'.imp (fun ⟨x, y⟩ => ⟨hS i hi x, y⟩) id⟩
  ·
   exact .inr e⟩
theorem pT.mono (h : pT p B S w w') (hp : ∀ t, p t -> p' t) (hS : ∀ i, S i -> S' i) : pT p' B S' w w' := ⟨h.os, h.tape, h.output, h.size, fun i hi => (h.block i hi).imp id (fun ⟨t, cs, x, y⟩ => ⟨t, cs, x, y.imp (fun ⟨x, y⟩ => ⟨hS i x, y⟩) (fun ⟨x, y⟩ => ⟨x, hp t y⟩)⟩)⟩
theorem pT.below (h : Below w.heap.size w w') : pT p B S w w' := ⟨h.os, h.tape, h.output, h.size, fun i hi => .inl (h.block i hi)⟩
theorem pT.refl (p : TypeId -> Prop) (B : Nat) (S : Nat -> Prop) (w : World) : pT p B S w w := pT.below (Below.refl _ _)
theorem pT.grown {g : Nat} {t : TypeId} {cs : List Value} (h : w.grownBy w' (some g)) (hb : nj w g t cs) (ht : Cw t) (hg : S g) : pT p B S w w' := ⟨h.os, h.tape, h.output, h.size, fun i hi => by
 by_cases e : i = g
 ·subst e; exact .inr ⟨t, cs, hb, .inl ⟨hg, ht⟩⟩
 ·
  exact .inl (h.block i hi (by simpa using e))⟩
theorem pT.row {α : Type} {e : TypeId} {k : Nat} {R : List Value -> α -> Prop} {v : Value} {l : List α} (ho : nZ w B e k R v l) (hp : p e) (h : w.grownBy w' v.ownBlock) : pT p B S w w' := by
 obtain ⟨css, ho, _⟩ := ho;rcases ho.2 with ⟨hv, _⟩ | ⟨g, cap, cur, hv, hB, hb, _⟩
 ·subst hv;exact ⟨h.os, h.tape, h.output, h.size, fun i hi => .inl (h.block i hi (by intro h; cases h))⟩
 ·
  subst hv;refine ⟨h.os, h.tape, h.output, h.size, fun i hi => ?_⟩;by_cases e' : i = g
  ·subst e'; exact .inr ⟨e, cur.toList, hb, .inr ⟨hB, hp⟩⟩
  ·exact .inl (h.block i hi (by intro c; injection c with c; exact e' c))
theorem pT.oL {g : Nat} {t : TypeId} {cs : List Value} (h : pT p B S w w') (hb : nj w g t cs) (hg : S g -> ¬ Cw t) (hp : ¬ p t) : nj w' g t cs := by
 rcases h.block g hb.lt with e | ⟨t', cs', hb', h'⟩
 ·exact e.trans hb
 ·
  unfold nj at hb hb';rw [hb] at hb';injection hb' with hb';injection hb' with _ e;subst e;rcases h' with ⟨x, y⟩ | ⟨_, y⟩
  ·exact absurd y (hg x)
  ·exact absurd y hp
theorem pT.own {e : TypeId} {s n b0 : Nat} {v : Value} {xs : List Value} (h : pT p B S w w') (ho : w.ownsRow b0 e s v n xs) (he : ∀ b, v.ownBlock = some b -> S b -> ¬ Cw e) (hp : ¬ p e) : w'.ownsRow b0 e s v n xs := by
 obtain ⟨h0, ho⟩ := ho;refine ⟨h0, ?_⟩;rcases ho with ho | ⟨g, cap, cur, hv, hB, hg, r⟩
 ·exact .inl ho
 ·exact .inr ⟨g, cap, cur, hv, hB, h.oL (g := g) (t := e) (cs := cur.toList) hg (he g (by rw [hv]; rfl)) hp, r⟩
theorem pT.yj {α : Type} {e : TypeId} {k b0 : Nat} {R : List Value -> α -> Prop} {v : Value} {l : List α} (h : pT p B S w w') (ho : nZ w b0 e k R v l) (he : ¬ Cw e) (hp : ¬ p e) : nZ w' b0 e k R v l := ho.stays (fun _ x => h.own x (fun _ _ _ => he) hp) (fun _ _ x => x)
theorem pT.stays (h : pT p B S w w') (hp : ¬ p 9) : nQ w w' := fun v n x => h.own x (fun _ _ _ => by unfold Cw; decide) hp
theorem pT.msg {cs : List Value} {m : oh} (h : pT p B S w w') (hm : nL w cs m) (hp : ¬ p 9) (hq : ¬ p 28) (hr : ¬ p 119) : nL w' cs m := by
 obtain ⟨vq, va, vu, ve, h1, h2, h3, h4, h5, l⟩ := hm;have k := h.stays hp;have jq : ∀ v : Value, ∀ b, v.ownBlock = some b -> S b -> ¬ Cw 28 := fun _ _ _ _ => by unfold Cw; decide
 have jr : ∀ v : Value, ∀ b, v.ownBlock = some b -> S b -> ¬ Cw 119 := fun _ _ _ _ => by unfold Cw; decide
 exact ⟨vq, va, vu, ve, h1, h2.stays (fun _ x => h.own x (jq _) hq) (fun _ _ x => x.stays k), h3.stays (fun _ x => h.own x (jr _) hr) (fun _ _ x => x.stays k), h4.stays (fun _ x => h.own x (jr _) hr) (fun _ _ x => x.stays k), h5.stays (fun _ x => h.own x (jr _) hr) (fun _ _ x => x.stays k), l⟩
theorem pT.WN {gl : Nat} {L : Lt} (h : pT p B S w w') (hl : oW w gl L) (hS : ∀ i, S i -> ∃ t cs, nj w i t cs /\ t ≠ 3 /\ t ≠ 180) (h1 : ¬ p 3) (h2 : ¬ p 180) : oW w' gl L := by
 obtain ⟨v, hb, ho⟩ := hl;refine ⟨v, h.oL hb (fun s => ?_) h2, ?_⟩
 ·obtain ⟨t, cs, hb', _, hn⟩ := hS _ s;exact absurd rfl (hb'.pk hb hn)
 ·
  obtain ⟨h0, ho⟩ := ho;refine ⟨h0, ?_⟩;rcases ho with ho | ⟨g, cap, cur, hv, hB, hg, r⟩
  ·exact .inl ho
  ·refine .inr ⟨g, cap, cur, hv, hB, h.oL (g := g) (t := 3) (cs := cur.toList) hg (fun s => ?_) h1, r⟩;obtain ⟨t, cs, hb', hn, _⟩ := hS _ s;exact absurd rfl (nj.pk (cs' := cur.toList) hb' hg hn)
theorem pT.toBelow (h : pT p B S w w') (hb : Below B a w) (hB : B <= w.heap.size) (hS : ∀ i, i < B -> ¬ S i) : Below B a w' :=
 ⟨h.os.trans hb.os, h.tape.trans hb.tape, h.output.trans hb.output, Nat.le_trans hb.size h.size, fun i hi => by
  rcases h.block i (Nat.lt_of_lt_of_le hi hB) with e | ⟨t, cs, _, e⟩
  ·exact e.trans (hb.block i hi)
  ·
   rcases e with e | e
   ·exact absurd e.1 (hS i hi)
   ·
    omega⟩
end
def QY (cs : List Value) (e : Ev) : Prop := cs = qm e /\ IB e
theorem QY.len {cs : List Value} {e : Ev} (h : QY cs e) : cs.length = 22 := by rw [h.1]; exact sR h.2.1
def Wc (vn : Value) (cs : List Value) (y : Qy) : Prop := cs = qY vn y /\ y.sv.ip.length = 16
def vy (A : List Value) (gl : Nat) (vr vq vk : Value) (dn : Bool) (vd : Int) (ds : List Value) : List Value := A ++ (.pointer (some ⟨gl, 0, none⟩) :: vr :: vq :: vk :: .bool dn :: .int .i64 vd :: ds)
section
variable {A ds : List Value} {gl : Nat} {vr vq vk : Value} {dn : Bool} {vd : Int} (h : A.length = 25)
include h
theorem FL : (vy A gl vr vq vk dn vd ds).length = 31 + ds.length := by simp [vy, h]; omega
theorem NW (i : Nat) (hi : i < 25) : (vy A gl vr vq vk dn vd ds)[i]? = A[i]? := by unfold vy; rw [List.getElem?_append_left ak]
theorem um (i : Nat) (hi : i < 6) : (vy A gl vr vq vk dn vd ds)[25 + i]? = [Value.pointer (some ⟨gl, 0, none⟩), vr, vq, vk, .bool dn, .int .i64 vd][i]? := by
 unfold vy;rw [List.getElem?_append_right ak, show 25 + i - A.length = i by omega];exact List.getElem?_append_left (l₁ := [Value.pointer (some ⟨gl, 0, none⟩), vr, vq, vk, .bool dn, .int .i64 vd]) (l₂ := ds) aw
theorem Wd : ((vy A gl vr vq vk dn vd ds).drop 10).take 3 = (A.drop 10).take 3 := by
 unfold vy;rw [List.drop_append_of_le_length ak, List.take_append_of_le_length al]
theorem Vb (hd : ds.length = 14) : ((vy A gl vr vq vk dn vd ds).drop 30).take 15 = .int .i64 vd :: ds := by
 unfold vy;rw [show (30 : Nat) = A.length + 5 by omega, List.drop_append, List.drop_of_length_le ak, List.nil_append, Nat.add_sub_cancel_left];show (Value.int .i64 vd :: ds).take 15 = _;exact List.take_of_length_le (by simp [hd])
theorem FM (i : Nat) (v : Value) : (vy A gl vr vq vk dn vd ds).set (25 + i) v = A ++ (Value.pointer (some ⟨gl, 0, none⟩) :: vr :: vq :: vk :: .bool dn :: .int .i64 vd :: ds).set i v := by
 unfold vy;rw [List.set_append_right _ _ ak, show 25 + i - A.length = i by omega]
theorem FP (v : Value) : (vy A gl vr vq vk dn vd ds).set 26 v = vy A gl v vq vk dn vd ds := FM h 1 v
theorem Ue (v : Value) : (vy A gl vr vq vk dn vd ds).set 27 v = vy A gl vr v vk dn vd ds := FM h 2 v
theorem LB (v : Value) : (vy A gl vr vq vk dn vd ds).set 28 v = vy A gl vr vq v dn vd ds := FM h 3 v
theorem Tr (b : Bool) : (vy A gl vr vq vk dn vd ds).set 29 (.bool b) = vy A gl vr vq vk b vd ds := FM h 4 _
theorem Vc (vd' : Int) (ds' : List Value) (hd : ds.length = 14) (hd' : ds'.length = 14) : (vy A gl vr vq vk dn vd ds).take 30 ++ (.int .i64 vd' :: ds' ++ (vy A gl vr vq vk dn vd ds).drop 45) = vy A gl vr vq vk dn vd' ds' := by
 have e1 : (vy A gl vr vq vk dn vd ds).take 30 = A ++ [Value.pointer (some ⟨gl, 0, none⟩), vr, vq, vk, .bool dn] := by unfold vy;rw [show (30 : Nat) = A.length + 5 by omega, List.take_length_add_append]; rfl
 have e2 : (vy A gl vr vq vk dn vd ds).drop 45 = [] := List.drop_of_length_le (by rw [FL h]; omega);rw [e1, e2];simp [vy]
end
structure pq (w : World) (g gl B : Nat) (vn : Value) (A : List Value) (vr : Value) (qs : List Qy) (kept : List Ev) (dn : Bool) (vd : Int) (m : oh) : Prop where
 b : ∃ vq vk ds, nj w g 194 (vy A gl vr vq vk dn vd ds) /\ nZ w B 37 23 (Wc vn) vq qs /\ nZ w B 42 22 QY vk kept /\ nL w ds m
 la : A.length = 25
 lo : B <= g
theorem pq.lt {w : World} {g gl B : Nat} {vn : Value} {A : List Value} {vr : Value} {qs : List Qy} {kept : List Ev} {dn : Bool} {vd : Int} {m : oh} (h : pq w g gl B vn A vr qs kept dn vd m) : g < w.heap.size := by obtain ⟨_, _, _, hb, _⟩ := h.b; exact hb.lt
theorem pq.fr {p : TypeId -> Prop} {S : Nat -> Prop} {b0 : Nat} {w w' : World} {g gl B : Nat} {vn : Value} {A : List Value} {vr : Value} {qs : List Qy} {kept : List Ev} {dn : Bool} {vd : Int} {m : oh} (h : pq w g gl B vn A vr qs kept dn vd m) (k : pT NV b0 S w w') (hg : ¬ S g) : pq w' g gl B vn A vr qs kept dn vd m := by
 obtain ⟨vq, vk, ds, h1, h2, h3, h4⟩ := h.b;have n : ∀ t, ¬ NV t := fun _ x => x
 exact ⟨⟨vq, vk, ds, k.oL h1 (fun s => absurd s hg) (n _), k.yj h2 di (n _), k.yj h3 di (n _), k.msg h4 (n _) (n _) (n _)⟩, h.la, h.lo⟩
theorem pq.below {w w' : World} {g gl B : Nat} {vn : Value} {A : List Value} {vr : Value} {qs : List Qy} {kept : List Ev} {dn : Bool} {vd : Int} {m : oh} (h : pq w g gl B vn A vr qs kept dn vd m) (k : Below w.heap.size w w') : pq w' g gl B vn A vr qs kept dn vd m := h.fr (p := NV) (S := fun _ => False) (b0 := 0) (pT.below k) (fun x => x)
structure QZ (A : List Value) (vn : Value) (x : Xc) : Prop where
 q : (A.drop 10).take 3 = qC vn x.q
 tmo : A[19]? = some (.int .i64 x.tmo)
 vc : A[22]? = some (.bool x.vc)
 ed : A[24]? = some (.bool x.ed)
def rE (h : uy) (ds : List Value) : List Value := .bool h.mat :: .bool h.ends :: .bool h.told :: ds
theorem sB {h : uy} {ds : List Value} (hd : ds.length = 14) : (rE h ds).length = 17 := by simp [rE, hd]
theorem qi {h : uy} {ds : List Value} (hd : ∀ v ∈ ds, v.oneCell' = true) : ∀ v ∈ rE h ds, v.oneCell' = true := by
 intro v hv;simp only [rE, List.mem_cons] at hv;rcases hv with rfl | rfl | rfl | hv
 ·rfl
 ·rfl
 ·rfl
 ·exact hd v hv
theorem IK : (prog.info? 305).map (·.size) = some 17 := by kernel_rfl
def zy : List Value := rE uy.no nR
theorem Q7 (a b c : Bool) (h : Hd) (A1 A2 A3 A4 : Option Addr) (n1 n2 n3 n4 c1 c2 c3 c4 : Nat) (W : World) : (Instr.build 305 #[(0, .bool a), (1, .bool b), (2, .bool c), (3, .agg (rT h (.slice A1 n1 c1) (.slice A2 n2 c2) (.slice A3 n3 c3) (.slice A4 n4 c4)).toArray)]).run prog W = .ok (.agg (.bool a :: .bool b :: .bool c :: rT h (.slice A1 n1 c1) (.slice A2 n2 c2) (.slice A3 n3 c3) (.slice A4 n4 c4)).toArray) W := by kernel_rfl
theorem nL.WX {w : World} {ds : List Value} {m : oh} (h : nL w ds m) (a b c : Bool) (W : World) : (Instr.build 305 #[(0, .bool a), (1, .bool b), (2, .bool c), (3, .agg ds.toArray)]).run prog W = .ok (.agg (rE ⟨a, b, c, m⟩ ds).toArray) W := by
 obtain ⟨vq, va, vu, ve, rfl, h2, h3, h4, h5, _⟩ := h;obtain ⟨Aq, cq, rfl⟩ := h2.form;obtain ⟨Aa, ca, rfl⟩ := h3.form;obtain ⟨Au, cu, rfl⟩ := h4.form;obtain ⟨Ae, ce, rfl⟩ := h5.form;exact Q7 ..
theorem Ch (W : World) : (Instr.build 305 #[]).run prog W = .ok (.agg zy.toArray) W := by kernel_rfl
theorem Ci (W : World) : (Instr.build 305 #[(0, .bool true)]).run prog W = .ok (.agg (rE ⟨true, false, false, oh.zero⟩ nR).toArray) W := by kernel_rfl
theorem IL (b : Bool) (W : World) : (Instr.build 305 #[(0, .bool true), (1, .bool b)]).run prog W = .ok (.agg (rE ⟨true, b, false, oh.zero⟩ nR).toArray) W := by kernel_rfl
def Ts (gc : Nat) (n : Int) (w : World) (e : Ending) (w' : World) : Prop := e = .returned (.agg (rE ⟨true, decide (n <= 1), false, oh.zero⟩ nR).toArray) /\ nj w' gc 3 [.int .i64 (n - 1)] /\ w.grownBy w' (some gc)
theorem IM (gc : Nat) (n : Int) (w : World) (h : nj w gc 3 [.int .i64 n]) (h1 : 1 <= n) (h2 : n <= 30) : Calls prog 253 #[.pointer (some ⟨gc, 0, none⟩)] w (Ts gc n w) := by
 have hlt := h.lt;have c0 := h.nf 0 rfl;have f0 := h.frozen 0;have hd : (n - 1 == 0) = decide (n <= 1) := by
  by_cases e : n = 1
  ·subst e; rfl
  ·rw [decide_eq_false ak]; simp; omega
 have BC2 : nj ((w.setCell ⟨gc, 0, none⟩ (.int .i64 (n - 1))).alloc (.cells zy.toArray 305)) gc 3 [.int .i64 (n - 1)] := (h.set 0 (.int .i64 (n - 1))).alloc _;have BZ2 : nj ((w.setCell ⟨gc, 0, none⟩ (.int .i64 (n - 1))).alloc (.cells zy.toArray 305)) w.heap.size 305 zy := iJ;have G2 : w.grownBy ((w.setCell ⟨gc, 0, none⟩ (.int .i64 (n - 1))).alloc (.cells zy.toArray 305)) (some gc) := rX (nT (World.grownBy.refl _ _) _ _) _;clear h;go_enter func253, ntmps253;go_wp2_with (first
  | (refine nh (.build 305 #[(0, .const (.bool true)), (1, .tmp 5)]) rfl ?_; go_must (refine oo rfl 305 _ rfl #[(0, .bool true), (1, .bool (decide (n <= 1)))] cM (IL _ _) ?_))
  | (refine nh (.store 305 (.tmp 1) (.tmp 6)) rfl (ab rfl w.heap.size 0 (rE ⟨true, decide (n <= 1), false, oh.zero⟩ nR) BZ2 dj dr (qi (nL.zero w).one) ?_)))
 intro w2 B2 g2 sw;clear sw;replace B2 := oH (L := rE ⟨true, decide (n <= 1), false, oh.zero⟩ nR) B2 dv;have BC3 := BC2.grown g2 db;have G3 := ns G2 g2 (.inr (fun k hk => by injection hk with hk; omega));clear BZ2 g2 G2 BC2;go_wp2_with fail;refine oP rfl w.heap.size rfl B2 _ underlying305 rfl dr rfl ?_;exact ⟨rfl, BC3, G3⟩
def Q8 (n : Int) (w : World) (e : Ending) (w' : World) : Prop := ∃ gc, e = .returned (.func (.func 253) #[] #[.pointer (some ⟨gc, 0, none⟩)]) /\ nj w' gc 3 [.int .i64 n] /\ Below w.heap.size w w' /\ w.heap.size <= gc
theorem Ep (n : Int) (w : World) : Calls prog 243 #[.int .i64 n] w (Q8 n w) := by
 go_enter func243, ntmps243;go_wp2_with fail;go_ret;exact ⟨w.heap.size, rfl, nj.new w 3 [.int .i64 n], (Below.refl _ _).alloc (Nat.le_refl _) _, Nat.le_refl _⟩
theorem We : (prog.info? 350).map (·.size) = some 1 := by kernel_rfl
structure C9 (w : World) (hv : Value) (gc : Nat) (vn : Value) (y : Qy) (n : Int) : Prop where
 c : nj w gc 3 [.int .i64 n]
 f : ∃ gt gq, hv = .func (.func 245) #[] #[.pointer (some ⟨gt, 0, none⟩), .pointer (some ⟨gq, 0, none⟩)] /\ nj w gt 350 [.func (.func 253) #[] #[.pointer (some ⟨gc, 0, none⟩)]] /\ nj w gq 37 (qY vn y)
def Wf (vn : Value) (y : Qy) (n : Int) (w : World) (e : Ending) (w' : World) : Prop := ∃ hv gc, e = .returned hv /\ C9 w' hv gc vn y n /\ Below w.heap.size w w' /\ w.heap.size <= gc
theorem Da (vn : Value) (y : Qy) (n : Int) (w : World) : Calls prog 233 #[.agg (qY vn y).toArray, .int .i64 n] w (Wf vn y n w) := by
 generalize hqs : qY vn y = qs;have HX : Below w.heap.size w (w.alloc (.cells qs.toArray 37)) := eC;have BQ := nj.new w 37 qs;have HQ := Hh hqs;clear hqs;go_enter func233, ntmps233;go_wp2_with fail;refine (Ep n _).mono ?_;rintro _ w1 ⟨gc, rfl, bc, b1, hc⟩;have BQ1 := BQ.below b1 BQ.lt;have H1 := nc HX HX.size b1;clear BQ HX b1;go_wp2_with (refine nh (.store 350 (.tmp 5) (.tmp 7)) rfl (af rfl w1.heap.size 0 (.func (.func 253) #[] #[.pointer (some ⟨gc, 0, none⟩)]) (nj.new w1 350 [.nilFunc]) aj We ?_));intro w2 B2 g2 sw;clear sw;have k2 := ng ((Below.refl w1.heap.size w1).alloc (Nat.le_refl _) _) g2 ag (Nat.le_refl _);have H2 := nc H1 H1.size k2;have bc2 := bc.below k2 bc.lt;have BQ2 := BQ1.below k2 BQ1.lt;clear g2 k2 H1 bc BQ1;go_wp2_with fail;go_ret;exact ⟨_, gc, rfl, ⟨bc2, _, _, rfl, B2, HQ.out ▸ BQ2⟩, H2, Nat.le_trans ag hc⟩
def Wg (h : uy) (hv : Value) (gc : Nat) (vn : Value) (y : Qy) (n : Int) (w : World) (e : Ending) (w' : World) : Prop := ∃ ds, e = .returned (.agg (rE h ds).toArray) /\ nL w' ds h.msg /\ C9 w' hv gc vn y n /\ w.grownBy w' (some gc)
theorem C9.grown {w w' : World} {hv : Value} {gc : Nat} {vn : Value} {y : Qy} {n n' : Int} (h : C9 w hv gc vn y n) (hg : w.grownBy w' (some gc)) (hc : nj w' gc 3 [.int .i64 n']) : C9 w' hv gc vn y n' := by
 obtain ⟨gt, gq, h1, h2, h3⟩ := h.f;exact ⟨hc, gt, gq, h1, h2.grown hg dX, h3.grown hg dY⟩
theorem C9.below {w w' : World} {hv : Value} {gc : Nat} {vn : Value} {y : Qy} {n : Int} (h : C9 w hv gc vn y n) (k : Below w.heap.size w w') : C9 w' hv gc vn y n := h.grown (nG k _) (h.c.below k h.c.lt)
def Ws (y : Qy) (n : Int) (e : Ev) : uy := if e.kind = 1 then ⟨true, decide (n <= 1), false, oh.zero⟩ else ⟨(te y e).2, (te y e).2, (te y e).2, (te y e).1⟩
set_option maxHeartbeats 1000000 in
theorem NY (gt gq gc : Nat) (vn : Value) (y : Qy) (n : Int) (e : Ev) (w : World) (h : C9 w (.func (.func 245) #[] #[.pointer (some ⟨gt, 0, none⟩), .pointer (some ⟨gq, 0, none⟩)]) gc vn y n) (hN : y9 w vn y.q.name) (hy : y.sv.ip.length = 16) (h1 : 1 <= n) (h2 : n <= 30) (he : IB e) (hdl : e.data.length <= maxLen) :
  Calls prog 245 #[.agg (qm e).toArray, .pointer (some ⟨gt, 0, none⟩), .pointer (some ⟨gq, 0, none⟩)] w (Wg (Ws y n e) (.func (.func 245) #[] #[.pointer (some ⟨gt, 0, none⟩), .pointer (some ⟨gq, 0, none⟩)]) gc vn y (if e.kind = 1 then n - 1 else n) w) := by
 obtain ⟨hv, hhv⟩ : ∃ hv, Hid (Value.func (.func 245) #[] #[.pointer (some ⟨gt, 0, none⟩), .pointer (some ⟨gq, 0, none⟩)] = hv) := eD;rw [hhv.out] at h ⊢;have HE := Lib.hid h;obtain ⟨hc, gt', gq', hf, ht, hq⟩ := h;rw [<- hhv.out] at hf;injection hf with _ _ hf;simp only [Array.mk.injEq, List.cons.injEq, Value.pointer.injEq, Option.some.injEq, Addr.mk.injEq, and_true, true_and] at hf;obtain ⟨rfl, rfl⟩ := hf;have hel := sR he.1;have E0 : (qm e)[0]? = some (.int .i64 e.kind) := rfl;have hql := qS (vn := vn) hy;have HX : Below w.heap.size w ((w.alloc (.cells (qm e).toArray 42)).alloc (.cells zy.toArray 305)) := eG;obtain ⟨A, cA, hvn, hNR⟩ := hN.form;have PK := Hh (fun V (hV : Below w.heap.size w V) => Bf (qY vn y) y A cA e V (CX.below ⟨by rw [hvn], hy, hNR⟩ hV) he.1 hdl);clear hN hNR hvn;unfold Ws;by_cases hk : e.kind = 1
 case pos => rw [if_pos hk, if_pos hk];rw [hk] at E0;have TK := Hh (fun V (hV : Below w.heap.size w V) => IM gc n V (hc.below hV hc.lt) h1 h2);have d0 := (nj.new w 42 (qm e)).nf 0 E0;have dt := ht.nf 0 rfl;have hgt := ht.lt;have BZ : nj ((w.alloc (.cells (qm e).toArray 42)).alloc (.cells zy.toArray 305)) (w.heap.size + 1) 305 zy := iJ;clear hk PK hq;generalize qm e = es at *;have g0 : ∀ hi : 0 < es.length, es[0]'hi = .int .i64 1 := iS;go_enter func245, ntmps245;go_wp2_with fail;refine (TK.out _ HX).mono ?_;rintro _ w2 ⟨rfl, b2, g2⟩;have BZ2 := BZ.grown g2 dz;have G2 := ns (nG HX _) g2 (.inl rfl);clear TK BZ HX g2 d0 dt;go_wp2_with (refine nh (.store 305 (.tmp 4) (.tmp 11)) rfl (ab rfl (w.heap.size + 1) 0 (rE ⟨true, decide (n <= 1), false, oh.zero⟩ nR) BZ2 dj dr (qi (nL.zero w).one) ?_));intro w3 B3 g3 sw;clear sw;replace B3 := oH (L := rE ⟨true, decide (n <= 1), false, oh.zero⟩ nR) B3 dv;have G3 := ns G2 g3 (.inr (fun k hk => by injection hk with hk; omega));have b3 := b2.grown g3 dz;clear BZ2 g3 G2 b2;go_wp2_with fail;refine oP rfl (w.heap.size + 1) rfl B3 _ underlying305 rfl dr rfl ?_;exact ⟨nR, rfl, nL.zero _, HE.out.grown G3 b3, G3⟩
 case neg =>
  rw [if_neg hk, if_neg hk];have hk' : (e.kind == 1) = false := aP;have E := nj.new w 42 (qm e);have d0 := E.nf 0 E0;have BZ : nj ((w.alloc (.cells (qm e).toArray 42)).alloc (.cells zy.toArray 305)) (w.heap.size + 1) 305 zy := iJ;have E1 : nj ((w.alloc (.cells (qm e).toArray 42)).alloc (.cells zy.toArray 305)) w.heap.size 42 (qm e) := E.alloc _;have hq1 := hq.below HX hq.lt;have P0 := Hh (PK.out _ HX);clear E hk PK hq ht hc;generalize te y e = pp at *;generalize qm e = es at *;generalize e.kind = kd at *;have g0 : ∀ hi : 0 < es.length, es[0]'hi = .int .i64 kd := iS;generalize qY vn y = qs at *;go_enter func245, ntmps245;go_wp2_with (first
   | (refine nh (.load 37 (.tmp 2)) rfl ?_; go_must (refine ni rfl _ _ rfl gq 0 rfl hq1 23 ak _ underlying37 rfl Bj qs (qj ak) ?_))
   | (refine nh (.load 42 (.tmp 3)) rfl ?_; go_must (refine ni rfl _ _ rfl w.heap.size 0 rfl E1 22 ak _ underlying42 rfl Ek es (qj ak) ?_)))
  refine P0.out.mono ?_;rintro _ w2 ⟨ds, rfl, hM, b2⟩;have hdl := hM.len;have hd1 := hM.one;have BZ2 := BZ.below b2 BZ.lt;have H2 := nc HX HX.size b2;have hsz : w.heap.size + 1 < w2.heap.size := BZ2.lt;have HB := Hh (hM.WX pp.2 pp.2 pp.2);have HM := Hh hM;clear P0 BZ E1 hq1 HX b2 d0 hM;go_wp2_with (refine nh (.store 50 (.tmp 5) (.tmp 16)) rfl (ab rfl w2.heap.size 0 ds (nj.ph _ _ nR _ rfl) cF cG hd1 ?_));intro w3 B3 g3 sw;clear sw;replace B3 : nj w3 w2.heap.size 50 ds := su B3 cH;have k3 := ng ((Below.refl w2.heap.size w2).alloc (Nat.le_refl _) _) g3 ag (Nat.le_refl _);have BZ3 := BZ2.below k3 hsz;have H3 := nc H2 H2.size k3;have HM3 := Hh (HM.out.below k3);clear g3 k3 BZ2 H2 HM;go_wp2_with (first
   | (refine nh (.load 50 (.tmp 5)) rfl ?_; go_must (refine ni rfl _ _ rfl w2.heap.size 0 rfl B3 14 ak _ underlying50 rfl oy ds (qj ak) ?_))
   | (refine nh (.build 305 #[(0, .tmp 18), (1, .tmp 19), (2, .tmp 20), (3, .tmp 21)]) rfl ?_; go_must (refine oo rfl 305 _ rfl #[(0, .bool pp.2), (1, .bool pp.2), (2, .bool pp.2), (3, .agg ds.toArray)] cM (HB.out _) ?_))
   | (refine nh (.store 305 (.tmp 4) (.tmp 22)) rfl (ab rfl (w.heap.size + 1) 0 (rE ⟨pp.2, pp.2, pp.2, pp.1⟩ ds) BZ3 dA dB (qi hd1) ?_)))
  intro w4 B4 g4 sw;clear sw;replace B4 := oH (L := rE ⟨pp.2, pp.2, pp.2, pp.1⟩ ds) B4 dC;have HM4 := Hh (HM3.out.u9 g4 BZ3 aj aj aj);have H4 := ng H3 g4 H3.size ak;clear g4 BZ3 H3 HM3 HB B3;go_wp2_with fail;refine oP rfl (w.heap.size + 1) rfl B4 _ underlying305 rfl dB rfl ?_;exact ⟨ds, rfl, HM4.out, HE.out.below H4, nG H4 _⟩
structure ub (w : World) (hv : Value) (gc go gj : Nat) (vn : Value) (y : Qy) (n : Int) (op : Bool) (p : List UInt8) : Prop where
 c : nj w gc 3 [.int .i64 n]
 o : nj w go 4 [.bool op]
 j : oB w gj [] [] p
 f : ∃ gt gq, hv = .func (.func 244) #[] #[.pointer (some ⟨gt, 0, none⟩), .pointer (some ⟨gq, 0, none⟩), .pointer (some ⟨go, 0, none⟩), .pointer (some ⟨gj, 0, none⟩)] /\ nj w gt 350 [.func (.func 253) #[] #[.pointer (some ⟨gc, 0, none⟩)]] /\ nj w gq 37 (qY vn y)
theorem uS {w : World} {g : Nat} {p : List UInt8} (h : oB w g [] [] p) : ∃ L, nj w g 150 L := by
 obtain ⟨_, _, _, _, _, hb, _⟩ := h;exact ⟨_, hb⟩
theorem Ko (w : World) : oB (w.alloc (.cells #[.pointer none, .int .i64 0, .int .u8 0, .int .u8 0] 150)) w.heap.size [] [] [] :=
 ⟨none, [], 0, 0, rfl, nj.new w 150 [.pointer none, .int .i64 0, .int .u8 0, .int .u8 0], rfl, rfl, fun x h => by simp at h, fun x h => by simp at h⟩
section
variable {w w' : World} {hv : Value} {gc go gj : Nat} {vn : Value} {y : Qy} {n n' : Int} {op op' : Bool} {p p' : List UInt8}
theorem ub.below (h : ub w hv gc go gj vn y n op p) (k : Below w.heap.size w w') : ub w' hv gc go gj vn y n op p := by
 obtain ⟨gt, gq, h1, h2, h3⟩ := h.f;exact ⟨h.c.below k h.c.lt, h.o.below k h.o.lt, h.j.below k, gt, gq, h1, h2.below k h2.lt, h3.below k h3.lt⟩
theorem ub.fc (h : ub w hv gc go gj vn y n op p) (hg : w.grownBy w' (some gc)) (hc : nj w' gc 3 [.int .i64 n']) : ub w' hv gc go gj vn y n' op p := by
 obtain ⟨gt, gq, h1, h2, h3⟩ := h.f;exact ⟨hc, h.o.grown hg (by intro e; injection e with e; exact h.o.pk h.c aj e), h.j.grown hg h.c aj aj, gt, gq, h1, h2.grown hg dX, h3.grown hg dY⟩
theorem ub.fo (h : ub w hv gc go gj vn y n op p) (hg : w.grownBy w' (some go)) (ho : nj w' go 4 [.bool op']) : ub w' hv gc go gj vn y n op' p := by
 obtain ⟨gt, gq, h1, h2, h3⟩ := h.f;exact ⟨h.c.grown hg (by intro e; injection e with e; exact h.c.pk h.o aj e), ho, h.j.grown hg h.o aj aj, gt, gq, h1, h2.grown hg (by intro e; injection e with e; exact h2.pk h.o aj e), h3.grown hg (by intro e; injection e with e; exact h3.pk h.o aj e)⟩
theorem ub.fj (h : ub w hv gc go gj vn y n op p) (hg : w.grownBy w' (some gj)) (hj : oB w' gj [] [] p') : ub w' hv gc go gj vn y n op p' := by
 obtain ⟨L, hL⟩ := uS h.j;obtain ⟨gt, gq, h1, h2, h3⟩ := h.f;exact ⟨h.c.grown hg (by intro e; injection e with e; exact h.c.pk hL aj e), h.o.grown hg (by intro e; injection e with e; exact h.o.pk hL aj e), hj, gt, gq, h1, h2.grown hg (by intro e; injection e with e; exact h2.pk hL aj e), h3.grown hg (by intro e; injection e with e; exact h3.pk hL aj e)⟩
end
def Wh (vn : Value) (y : Qy) (n : Int) (w : World) (e : Ending) (w' : World) : Prop := ∃ hv gc go gj, e = .returned hv /\ ub w' hv gc go gj vn y n false [] /\ Below w.heap.size w w' /\ w.heap.size <= gc /\ w.heap.size <= go /\ w.heap.size <= gj
theorem zd (vn : Value) (y : Qy) (n : Int) (w : World) : Calls prog 232 #[.agg (qY vn y).toArray, .int .i64 n] w (Wh vn y n w) := by
 generalize hqs : qY vn y = qs;have HX : Below w.heap.size w (w.alloc (.cells qs.toArray 37)) := eC;have BQ := nj.new w 37 qs;have HQ := Hh hqs;clear hqs;go_enter func232, ntmps232;go_wp2_with fail;refine (Ep n _).mono ?_;rintro _ w1 ⟨gc, rfl, bc, b1, hc⟩;have BQ1 := BQ.below b1 BQ.lt;have H1 := nc HX HX.size b1;clear BQ HX b1;go_wp2_with (refine nh (.store 350 (.tmp 5) (.tmp 9)) rfl (af rfl w1.heap.size 0 (.func (.func 253) #[] #[.pointer (some ⟨gc, 0, none⟩)]) (nj.new w1 350 [.nilFunc]) aj We ?_));intro w2 B2 g2 sw;clear sw;have k2 := ng ((Below.refl w1.heap.size w1).alloc (Nat.le_refl _) _) g2 ag (Nat.le_refl _);have H2 := nc H1 H1.size k2;have bc2 := bc.below k2 bc.lt;have BQ2 := BQ1.below k2 BQ1.lt;clear g2 k2 H1 bc BQ1;go_wp2_with fail;go_ret;have k4 : Below w2.heap.size w2 ((w2.alloc (.cells #[.bool false] 4)).alloc (.cells #[.pointer none, .int .i64 0, .int .u8 0, .int .u8 0] 150)) := eG;have J := Ko (w2.alloc (.cells #[.bool false] 4));rw [show (w2.alloc (.cells #[.bool false] 4)).heap.size = w2.heap.size + 1 by simp] at J;have h2 := H2.size;exact ⟨_, gc, w2.heap.size, w2.heap.size + 1, rfl, ⟨bc2.below k4 bc2.lt, (nj.new w2 4 [.bool false]).alloc _, J, _, _, rfl, B2.below k4 B2.lt, HQ.out ▸ BQ2.below k4 BQ2.lt⟩, nc H2 H2.size k4, Nat.le_trans ag hc, h2, ak⟩
def Ra (y : Qy) (n : Int) (op : Bool) (p : List UInt8) (e : Ev) : uy :=
 if e.kind = 1 then ⟨true, decide (n <= 1), false, oh.zero⟩
 else if e.port ≠ y.port then uy.no
 else if e.kind = 3 then ⟨true, false, false, oh.zero⟩
 else if e.kind = 5 then ⟨true, true, false, oh.zero⟩
 else if e.kind ≠ 4 then uy.no
 else if op then (match oU y (n9 (p ++ e.data)) with
  | some m => ⟨true, true, true, m⟩
  | none => ⟨true, false, false, oh.zero⟩)
 else ⟨true, false, false, oh.zero⟩
def Rb (y : Qy) (n : Int) (op : Bool) (p : List UInt8) (e : Ev) : Int × Bool × List UInt8 :=
 if e.kind = 1 then (n - 1, op, p)
 else if e.port ≠ y.port then (n, op, p)
 else if e.kind = 3 then (n, true, p)
 else if e.kind = 5 then (n, op, p)
 else if e.kind ≠ 4 then (n, op, p)
 else if op then (n, op, pB (p ++ e.data)) else (n, op, p)
def CS (gc go gj : Nat) (i : Nat) : Prop := i = gc \/ i = go \/ i = gj
def ym (h : uy) (hv : Value) (gc go gj : Nat) (vn : Value) (y : Qy) (s : Int × Bool × List UInt8) (w : World) (e : Ending) (w' : World) : Prop := ∃ ds, e = .returned (.agg (rE h ds).toArray) /\ nL w' ds h.msg /\ ub w' hv gc go gj vn y s.1 s.2.1 s.2.2 /\ pT NV 0 (CS gc go gj) w w'
theorem Wi {H : uy} {hv : Value} {gc go gj : Nat} {vn : Value} {y : Qy} {n : Int} {op : Bool} {p : List UInt8} {w w' : World} (h : ub w hv gc go gj vn y n op p) (k : Below w.heap.size w w') (hH : H.msg = oh.zero) : ym H hv gc go gj vn y (n, op, p) w (.returned (.agg (rE H nR).toArray)) w' := ⟨nR, rfl, by rw [hH]; exact nL.zero _, h.below k, pT.below k⟩
theorem ub.fr {gc go gj : Nat} {hv vn : Value} {y : Qy} {n : Int} {op : Bool} {p : List UInt8} {w w' : World} {g : Nat} (h : ub w hv gc go gj vn y n op p) (hg : w.grownBy w' (some g)) (e : CS gc go gj g) : pT NV 0 (CS gc go gj) w w' := by
 obtain ⟨L, hL⟩ := uS h.j;rcases e with rfl | rfl | rfl
 ·exact pT.grown hg h.c di (.inl rfl)
 ·exact pT.grown hg h.o di (.inr (.inl rfl))
 ·exact pT.grown hg hL di (.inr (.inr rfl))
theorem pT.new {p : TypeId -> Prop} {B : Nat} {S : Nat -> Prop} {w w1 w' : World} {g : Nat} (h : pT p B S w w1) (k : w1.grownBy w' (some g)) (hg : w.heap.size <= g) : pT p B S w w' := ⟨k.os.trans h.os, k.tape.trans h.tape, k.output.trans h.output, Nat.le_trans h.size k.size, fun i hi => by
 rw [k.block i (Nat.lt_of_lt_of_le hi h.size) dD];exact h.block i hi⟩
theorem ub.hd {gc go gj : Nat} {hv vn : Value} {y : Qy} {n : Int} {op : Bool} {p : List UInt8} {w w' : World} {g : Nat} {L : List Value} (h : ub w hv gc go gj vn y n op p) (hg : w.grownBy w' (some g)) (hb : nj w g 305 L) : ub w' hv gc go gj vn y n op p := by
 obtain ⟨gt, gq, h1, h2, h3⟩ := h.f;exact ⟨h.c.grown hg (by intro e; injection e with e; exact h.c.pk hb aj e), h.o.grown hg (by intro e; injection e with e; exact h.o.pk hb aj e), h.j.grown hg hb aj aj, gt, gq, h1, h2.grown hg (by intro e; injection e with e; exact h2.pk hb aj e), h3.grown hg (by intro e; injection e with e; exact h3.pk hb aj e)⟩
set_option maxHeartbeats 4000000 in
theorem NZ (hv : Value) (gt gq gc go gj : Nat) (vn : Value) (y : Qy) (n : Int) (op : Bool) (p : List UInt8) (e : Ev) (w : World) (hf : hv = .func (.func 244) #[] #[.pointer (some ⟨gt, 0, none⟩), .pointer (some ⟨gq, 0, none⟩), .pointer (some ⟨go, 0, none⟩), .pointer (some ⟨gj, 0, none⟩)])
  (h : ub w hv gc go gj vn y n op p) (hN : y9 w vn y.q.name) (hy : y.sv.ip.length = 16) (h1 : 1 <= n) (h2 : n <= 30) (he : IB e) (hb : p.length + e.data.length <= 8796093022208) :
  Calls prog 244 #[.agg (qm e).toArray, .pointer (some ⟨gt, 0, none⟩), .pointer (some ⟨gq, 0, none⟩), .pointer (some ⟨go, 0, none⟩), .pointer (some ⟨gj, 0, none⟩)] w (ym (Ra y n op p e) hv gc go gj vn y (Rb y n op p e) w) := by
 have HE := Lib.hid h;obtain ⟨hc, ho, hj, gt', gq', hf', ht, hq⟩ := h;rw [hf] at hf';injection hf' with _ _ hf';simp only [Array.mk.injEq, List.cons.injEq, Value.pointer.injEq, Option.some.injEq, Addr.mk.injEq, and_true, true_and] at hf';obtain ⟨rfl, rfl⟩ := hf';clear hf;have hel := sR he.1;have E0 : (qm e)[0]? = some (.int .i64 e.kind) := rfl;have E20 : (qm e)[20]? = some (.int .i64 e.port) := vV he.1 1;have E21 : (qm e)[21]? = some (.string (bs e.data)) := vV he.1 2;have hql := qS (vn := vn) hy;have HX : Below w.heap.size w ((w.alloc (.cells (qm e).toArray 42)).alloc (.cells zy.toArray 305)) := eG;have BZ : nj ((w.alloc (.cells (qm e).toArray 42)).alloc (.cells zy.toArray 305)) (w.heap.size + 1) 305 zy := iJ;have hqt := hq.lt;have hgo := ho.lt;have dq := hq.nf 18 (tY hy 0);have do_ := ho.nf 0 rfl;obtain ⟨R, hR⟩ : ∃ R, Hid (Ra y n op p e = R) := eD;obtain ⟨s, hs⟩ : ∃ s, Hid (Rb y n op p e = s) := eD;rw [hR.out, hs.out];by_cases k1 : e.kind = 1
 case pos => have hR2 : Hid (R = ⟨true, decide (n <= 1), false, oh.zero⟩) := Hh (by rw [<- hR.out]; unfold Ra; rw [if_pos k1]);have hs2 : Hid (s = (n - 1, op, p)) := Hh (by rw [<- hs.out]; unfold Rb; rw [if_pos k1]);rw [k1] at E0;have TK := Hh (fun V (hV : Below w.heap.size w V) => IM gc n V (hc.below hV hc.lt) h1 h2);have dt := ht.nf 0 rfl;have hgt := ht.lt;have hgc := hc.lt;clear k1 hq dq do_ E20 E21 hR hs;generalize qm e = es at *;have g0 : ∀ hi : 0 < es.length, es[0]'hi = .int .i64 1 := iS;go_enter func244, ntmps244;go_wp2_with fail;refine (TK.out _ HX).mono ?_;rintro _ w2 ⟨rfl, b2, g2⟩;have BZ2 := BZ.grown g2 dD;have G2 := ns (nG HX _) g2 (.inl rfl);clear TK BZ HX g2 dt;go_wp2_with (refine nh (.store 305 (.tmp 6) (.tmp 16)) rfl (ab rfl (w.heap.size + 1) 0 (rE ⟨true, decide (n <= 1), false, oh.zero⟩ nR) BZ2 dj dr (qi (nL.zero w).one) ?_));intro w3 B3 g3 sw;clear sw;replace B3 := oH (L := rE ⟨true, decide (n <= 1), false, oh.zero⟩ nR) B3 dv;have G3 := ns G2 g3 (.inr (fun k hk => by injection hk with hk; omega));have b3 := b2.grown g3 dD;clear BZ2 g3 G2 b2;go_wp2_with fail;refine oP rfl (w.heap.size + 1) rfl B3 _ underlying305 rfl dr rfl ?_;rw [hR2.out, hs2.out];exact ⟨nR, rfl, nL.zero _, HE.out.fc G3 b3, HE.out.fr G3 (.inl rfl)⟩
 have k1' : (e.kind == 1) = false := by simpa using k1
 clear ht hc;by_cases kp : e.port = y.port
 case neg =>
  have kp' : (e.port != y.port) = true := by simpa using kp
  have hR2 : Hid (R = uy.no) := Hh (by rw [<- hR.out]; unfold Ra; rw [if_neg k1, if_pos kp]);have hs2 : Hid (s = (n, op, p)) := Hh (by rw [<- hs.out]; unfold Rb; rw [if_neg k1, if_pos kp]);have FIN : Hid (∀ W, World.grownBy _ W (some (w.heap.size + 1)) -> ym R hv gc go gj vn y s w (.returned (.agg (rE uy.no nR).toArray)) W) := eT;clear k1 kp hq E21 hR hs HX;generalize qm e = es at *;generalize e.kind = kd at *;generalize e.port = pd at *;have g0 : ∀ hi : 0 < es.length, es[0]'hi = .int .i64 kd := iS;have g20 : ∀ hi : 20 < es.length, es[20]'hi = .int .i64 pd := qz E20;go_enter func244, ntmps244;go_wp2_with (first
   | (refine nh (.build 305 #[]) rfl ?_; go_must (refine oo rfl 305 _ rfl #[] cM (Ch _) ?_))
   | (refine nh (.store 305 (.tmp 6) (.tmp 23)) rfl (ab rfl (w.heap.size + 1) 0 (rE uy.no nR) BZ dj dr (qi (nL.zero w).one) ?_)))
  intro w7 B7 g7 sw;clear sw;replace B7 := oH (L := rE uy.no nR) B7 dv;exact jQ
 have kp' : (y.port != y.port) = false := ag;have kpn : ¬ (e.port ≠ y.port) := fun c => c kp
 rw [kp] at E20;by_cases k3 : e.kind = 3
 case pos =>
  have hR2 : Hid (R = ⟨true, false, false, oh.zero⟩) := Hh (by rw [<- hR.out]; unfold Ra; rw [if_neg k1, if_neg kpn, if_pos k3]);have hs2 : Hid (s = (n, true, p)) := Hh (by rw [<- hs.out]; unfold Rb; rw [if_neg k1, if_neg kpn, if_pos k3]);rw [k3] at E0;have hb1 := ho.below HX hgo;have FIN : Hid (∀ W V, World.grownBy ((w.alloc (.cells (qm e).toArray 42)).alloc (.cells zy.toArray 305)) V (some go) -> nj V go 4 [.bool true] -> World.grownBy V W (some (w.heap.size + 1)) -> ym R hv gc go gj vn y s w (.returned (.agg (rE ⟨true, false, false, oh.zero⟩ nR).toArray)) W) := Hh (fun W V hV hB hW => by
   rw [hR2.out, hs2.out];have G0 := ns (nG HX (some go)) hV (.inl rfl);have G := ns G0 hW (.inr (fun k hk => by injection hk with hk; omega));exact ⟨nR, rfl, nL.zero _, HE.out.fo G (hB.grown hW dD), HE.out.fr G (.inr (.inl rfl))⟩)
  clear k1 kp kpn k3 hq E21 hR hs HX do_ k1';generalize qm e = es at *;have g0 : ∀ hi : 0 < es.length, es[0]'hi = .int .i64 3 := iS;have g20 : ∀ hi : 20 < es.length, es[20]'hi = .int .i64 y.port := qz E20;go_enter func244, ntmps244;go_wp2_with (refine nh (.store 4 (.tmp 3) (.const (.bool true))) rfl (af rfl go 0 (.bool true) hb1 ag yM ?_));intro w5 B5 g5 sw;clear sw;replace BZ := BZ.grown g5 dD;have FIN := Hh (fun W => FIN.out W w5 g5 B5);clear hb1 g5 B5;go_wp2_with (first
   | (refine nh (.build 305 #[(0, .const (.bool true))]) rfl ?_; go_must (refine oo rfl 305 _ rfl #[(0, .bool true)] cM (Ci _) ?_))
   | (refine nh (.store 305 (.tmp 6) (.tmp 28)) rfl (ab rfl (w.heap.size + 1) 0 (rE (⟨true, false, false, oh.zero⟩) nR) BZ dj dr (qi (nL.zero w).one) ?_)))
  intro w7 B7 g7 sw;clear sw;replace B7 := oH (L := rE (⟨true, false, false, oh.zero⟩) nR) B7 dv;exact jQ
 have k3' : (e.kind == 3) = false := by simpa using k3
 by_cases k5 : e.kind = 5
 case pos =>
  have hR2 : Hid (R = ⟨true, true, false, oh.zero⟩) := Hh (by rw [<- hR.out]; unfold Ra; rw [if_neg k1, if_neg kpn, if_neg k3, if_pos k5]);have hs2 : Hid (s = (n, op, p)) := Hh (by rw [<- hs.out]; unfold Rb; rw [if_neg k1, if_neg kpn, if_neg k3, if_pos k5]);rw [k5] at E0;have FIN : Hid (∀ W, World.grownBy _ W (some (w.heap.size + 1)) -> ym R hv gc go gj vn y s w (.returned (.agg (rE ⟨true, true, false, oh.zero⟩ nR).toArray)) W) := eT;clear k1 kp kpn k3 k5 hq E21 hR hs HX k1' k3';generalize qm e = es at *;have g0 : ∀ hi : 0 < es.length, es[0]'hi = .int .i64 5 := iS;have g20 : ∀ hi : 20 < es.length, es[20]'hi = .int .i64 y.port := qz E20;go_enter func244, ntmps244;go_wp2_with (first
   | (refine nh (.build 305 #[(0, .const (.bool true)), (1, .const (.bool true))]) rfl ?_; go_must (refine oo rfl 305 _ rfl #[(0, .bool true), (1, .bool true)] cM ((IL true) _) ?_))
   | (refine nh (.store 305 (.tmp 6) (.tmp 33)) rfl (ab rfl (w.heap.size + 1) 0 (rE (⟨true, true, false, oh.zero⟩) nR) BZ dj dr (qi (nL.zero w).one) ?_)))
  intro w7 B7 g7 sw;clear sw;replace B7 := oH (L := rE (⟨true, true, false, oh.zero⟩) nR) B7 dv;exact jQ
 have k5' : (e.kind == 5) = false := by simpa using k5
 by_cases k4 : e.kind = 4
 case neg =>
  have k4' : (e.kind != 4) = true := by simpa using k4
  have hR2 : Hid (R = uy.no) := Hh (by rw [<- hR.out]; unfold Ra; rw [if_neg k1, if_neg kpn, if_neg k3, if_neg k5, if_pos k4]);have hs2 : Hid (s = (n, op, p)) := Hh (by rw [<- hs.out]; unfold Rb; rw [if_neg k1, if_neg kpn, if_neg k3, if_neg k5, if_pos k4]);have FIN : Hid (∀ W, World.grownBy _ W (some (w.heap.size + 1)) -> ym R hv gc go gj vn y s w (.returned (.agg (rE uy.no nR).toArray)) W) := eT;clear k1 kp kpn k3 k5 k4 hq E21 hR hs HX;generalize qm e = es at *;generalize e.kind = kd at *;have g0 : ∀ hi : 0 < es.length, es[0]'hi = .int .i64 kd := iS;have g20 : ∀ hi : 20 < es.length, es[20]'hi = .int .i64 y.port := qz E20;go_enter func244, ntmps244;go_wp2_with (first
   | (refine nh (.build 305 #[]) rfl ?_; go_must (refine oo rfl 305 _ rfl #[] cM (Ch _) ?_))
   | (refine nh (.store 305 (.tmp 6) (.tmp 38)) rfl (ab rfl (w.heap.size + 1) 0 (rE uy.no nR) BZ dj dr (qi (nL.zero w).one) ?_)))
  intro w7 B7 g7 sw;clear sw;replace B7 := oH (L := rE uy.no nR) B7 dv;exact jQ
 have k4n : ¬ (e.kind ≠ 4) := fun c => c k4
 rw [k4] at E0;cases op with
 | false =>
  have hR2 : Hid (R = ⟨true, false, false, oh.zero⟩) := Hh (by rw [<- hR.out]; unfold Ra; rw [if_neg k1, if_neg kpn, if_neg k3, if_neg k5, if_neg k4n, if_neg aj]);have hs2 : Hid (s = (n, false, p)) := Hh (by rw [<- hs.out]; unfold Rb; rw [if_neg k1, if_neg kpn, if_neg k3, if_neg k5, if_neg k4n, if_neg aj]);have FIN : Hid (∀ W, World.grownBy _ W (some (w.heap.size + 1)) -> ym R hv gc go gj vn y s w (.returned (.agg (rE ⟨true, false, false, oh.zero⟩ nR).toArray)) W) := eT;clear k1 kp kpn k3 k5 k4 k4n hq E21 hR hs HX k1' k3' k5';generalize qm e = es at *;have g0 : ∀ hi : 0 < es.length, es[0]'hi = .int .i64 4 := iS;have g20 : ∀ hi : 20 < es.length, es[20]'hi = .int .i64 y.port := qz E20;go_enter func244, ntmps244;go_wp2_with (first
   | (refine nh (.build 305 #[(0, .const (.bool true))]) rfl ?_; go_must (refine oo rfl 305 _ rfl #[(0, .bool true)] cM (Ci _) ?_))
   | (refine nh (.store 305 (.tmp 6) (.tmp 58)) rfl (ab rfl (w.heap.size + 1) 0 (rE (⟨true, false, false, oh.zero⟩) nR) BZ dj dr (qi (nL.zero w).one) ?_)))
  intro w7 B7 g7 sw;clear sw;replace B7 := oH (L := rE (⟨true, false, false, oh.zero⟩) nR) B7 dv;exact jQ
 | true =>
 have hR2 : Hid (R = match oU y (n9 (p ++ e.data)) with
  | some m => ⟨true, true, true, m⟩
  | none => ⟨true, false, false, oh.zero⟩) := Hh (by rw [<- hR.out]; unfold Ra; rw [if_neg k1, if_neg kpn, if_neg k3, if_neg k5, if_neg k4n, if_pos rfl])
 have hs2 : Hid (s = (n, true, pB (p ++ e.data))) := Hh (by rw [<- hs.out]; unfold Rb; rw [if_neg k1, if_neg kpn, if_neg k3, if_neg k5, if_neg k4n, if_pos rfl]);obtain ⟨An, cn, hvn, hNR⟩ := hN.form;have HLm : Hid (∀ t ∈ n9 (p ++ e.data), t.length <= maxLen) := fX;have FD := Hh (NU gj [] [] p e.data _ (hj.below HX) hb);have HFR := Hh (fun (w1 : World) (hg : World.grownBy _ w1 (some gj)) (hJ : oB w1 gj [] [] (pB (p ++ e.data))) => show ub w1 hv gc go gj vn y n true (pB (p ++ e.data)) /\ pT NV 0 (CS gc go gj) w w1 from ⟨(HE.out.below HX).fj hg hJ, HE.out.fr (ns (nG HX (some gj)) hg (.inl rfl)) (.inr (.inr rfl))⟩);have hjx := hj.below HX;obtain ⟨Lj, hLj⟩ := uS hjx;have hzj : some (w.heap.size + 1) ≠ some gj := by intro c; injection c with c; exact BZ.pk hLj aj c
 have HYN := Hh (show (∀ k (hk : k < (n9 (p ++ e.data)).length), oU y ((n9 (p ++ e.data)).take k) = none -> (pZ y (qR (n9 (p ++ e.data))[k])).2 = false -> oU y ((n9 (p ++ e.data)).take (k + 1)) = none) /\ (∀ k (hk : k < (n9 (p ++ e.data)).length), oU y ((n9 (p ++ e.data)).take k) = none -> (pZ y (qR (n9 (p ++ e.data))[k])).2 = true -> oU y (n9 (p ++ e.data)) = some (pZ y (qR (n9 (p ++ e.data))[k])).1) from ⟨fun k hk h => vW hk h, fun k hk h => vw hk h⟩);have hnl : (n9 (p ++ e.data)).length <= 8796093022208 := by have := DZ (p ++ e.data).length (p ++ e.data) (Nat.le_refl _);simp at this; omega
 have HNM := Hh hN;clear k1 kp kpn k3 k5 k4 k4n hR hs k1' k3' k5' hj hjx hLj Lj hN hNR hb;generalize n9 (p ++ e.data) = l at *;generalize pB (p ++ e.data) = r at *;generalize e.data = dt at *;generalize qm e = es at *;have g0 : ∀ hi : 0 < es.length, es[0]'hi = .int .i64 4 := iS;have g20 : ∀ hi : 20 < es.length, es[20]'hi = .int .i64 y.port := qz E20;have g21 : ∀ hi : 21 < es.length, es[21]'hi = .string (bs dt) := qz E21;have HQ := Hh hq;have hqx := hq.below HX hqt;have hqj : some gq ≠ some gj := by intro c;injection c with c;obtain ⟨L, hL⟩ := uS HE.out.j;exact hq.pk hL aj c
 clear hq;go_enter func244, ntmps244;go_wp2_with fail;refine FD.out.mono ?_;rintro _ w1 ⟨v, rfl, hT, hJ, g1⟩;obtain ⟨EC1, F1⟩ := HFR.out w1 g1 hJ;have HEC := Hh EC1;have HF1 := Hh F1;have BZ1 := BZ.grown g1 hzj;have BQ1 := hqx.grown g1 hqj;have hsz := F1.size;have N1 := HNM.out.stays (F1.stays (fun x => x));have FR := Hh (fun V (hV : Below w1.heap.size w1 V) t (ht : t.length <= maxLen) => show Calls prog 119 #[.agg (qY vn y).toArray, .string (bs t)] V (Qd (pZ y (qR t)) V) from by
  obtain ⟨An, cn, hvn, hNR⟩ := N1.form;exact yI (qY vn y) y An cn t V (CX.below ⟨by rw [hvn], hy, hNR⟩ hV) ht)
 obtain ⟨A, c, hv', -, -⟩ := hT.form;subst hv';have HT := Hh hT;clear FD HFR hJ g1 EC1 F1 BZ hqx HX hT N1 do_ dq HE HQ HNM hvn;generalize hqq : qY vn y = qs at *;clear hqq;go_wp2_with fail;go_loopw [44] (fun iv wr => ∃ k : Nat, k <= l.length /\ iv = .int .i64 k /\ oU y (l.take k) = none /\ Below w1.heap.size w1 wr) (fun iv _ => l.length - (intOf iv).toNat)
 case atStart => exact ⟨0, Nat.zero_le _, rfl, rfl, Below.refl _ _⟩
 obtain ⟨k, hk, rfl, hno, HB⟩ := hrel;have HN := Hh hno;clear hno;by_cases hlt : k < l.length
 case pos =>
  have hlt' : (k : Int) < l.length := ak;obtain ⟨A', c', hA, hTx, hc⟩ := (HT.out.below HB).form;injection hA with hA1 hA2 hA3;subst hA1 hA3;obtain ⟨ba, oa, hA, la, xa⟩ := hTx ak;subst hA;have cs1 := xa k hlt;have BQ2 := BQ1.below HB BQ1.lt;have FC := Hh (FR.out _ HB l[k] (HLm.out _ (List.getElem_mem hlt)));have HY := Hh (HYN.out.2 k hlt HN.out);have HNO := Hh (HYN.out.1 k hlt HN.out);have hZ := BZ1.lt;clear xa hTx hc HN;generalize pZ y (qR l[k]) = F at *;generalize l[k] = t at *;go_wp2_with (refine nh (.load 37 (.tmp 2)) rfl ?_; go_must (refine ni rfl _ _ rfl gq 0 rfl BQ2 23 ak _ underlying37 rfl Bj qs (qj ak) ?_));refine FC.out.mono ?_;rintro _ w2 ⟨ds2, rfl, hM2, b2⟩;have hdl := hM2.len;have hd1 := Hh hM2.one;have HB2 := nc HB HB.size b2;have HM2 := Hh hM2;clear FC BQ2 HB b2 cs1 hM2;go_wp2_with (refine nh (.store 50 (.tmp 9) (.tmp 52)) rfl (ab rfl w2.heap.size 0 ds2 (nj.ph _ _ nR _ rfl) cF cG hd1.out ?_));intro w3 B3 g3 sw;clear sw;replace B3 : nj w3 w2.heap.size 50 ds2 := su B3 cH;have k3 : Below w2.heap.size w2 w3 := fB;have HM3 := Hh (HM2.out.below k3);have HB3 := nc HB2 HB2.size k3;clear g3 k3 HM2 HB2;cases hf : F.2 with
  | false =>
   have HN := Hh (HNO.out hf);clear HNO HY hf HM3 B3;go_wp2_with fail;go_roundw
   case rel => exact ⟨k + 1, ak, eh, HN.out, HB3⟩
   case measure => simp [intOf]; omega
  | true =>
   have hy2 := HY.out hf;have hR3 : R = ⟨true, true, true, F.1⟩ := by rw [hR2.out, hy2]
   have HR3 := Hh hR3;have BZ3 := BZ1.below HB3 BZ1.lt;have HBD := Hh (HM3.out.WX true true true);clear hy2 hR3 HNO HY hf hR2;go_wp2_with (first
    | (refine nh (.load 50 (.tmp 9)) rfl ?_; go_must (refine ni rfl _ _ rfl w2.heap.size 0 rfl B3 14 ak _ underlying50 rfl oy ds2 (qj ak) ?_))
    | (refine nh (.build 305 #[(0, .const (.bool true)), (1, .const (.bool true)), (2, .const (.bool true)), (3, .tmp 55)]) rfl ?_; go_must (refine oo rfl 305 _ rfl #[(0, .bool true), (1, .bool true), (2, .bool true), (3, .agg ds2.toArray)] cM (HBD.out _) ?_))
    | (refine nh (.store 305 (.tmp 6) (.tmp 56)) rfl (ab rfl (w.heap.size + 1) 0 (rE ⟨true, true, true, F.1⟩ ds2) BZ3 dA dB (qi hd1.out) ?_)))
   intro w4 B4 g4 sw;clear sw;replace B4 := oH (L := rE ⟨true, true, true, F.1⟩ ds2) B4 dC;have FIN : Hid (ym R hv gc go gj vn y s w (.returned (.agg (rE ⟨true, true, true, F.1⟩ ds2).toArray)) w4) := Hh (by
    rw [HR3.out, hs2.out];exact ⟨ds2, rfl, HM3.out.u9 g4 BZ3 aj aj aj, (HEC.out.below HB3).hd g4 BZ3, HF1.out.new (ns (nG HB3 _) g4 (.inl rfl)) ak⟩)
   clear B3 g4 BZ3 HM3 HBD;go_wp2_with fail;refine oP rfl (w.heap.size + 1) rfl B4 _ underlying305 rfl dB rfl ?_;exact FIN.out
 obtain rfl : k = l.length := ak;have hlt' : ¬ (l.length : Int) < l.length := ak;have hn := HN.out;rw [List.take_of_length_le (Nat.le_refl _)] at hn;have hR3 : R = ⟨true, false, false, oh.zero⟩ := by rw [hR2.out, hn]
 have BZ := BZ1.below HB BZ1.lt;have FIN : Hid (∀ W, World.grownBy wr W (some (w.heap.size + 1)) -> ym R hv gc go gj vn y s w (.returned (.agg (rE ⟨true, false, false, oh.zero⟩ nR).toArray)) W) := Hh (fun W hW => by
  rw [hR3, hs2.out];exact ⟨nR, rfl, nL.zero _, (HEC.out.below HB).hd hW BZ, HF1.out.new (ns (nG HB _) hW (.inl rfl)) ak⟩)
 clear hR3 hn HN BZ1 hR2;go_wp2_with (first
  | (refine nh (.build 305 #[(0, .const (.bool true))]) rfl ?_; go_must (refine oo rfl 305 _ rfl #[(0, .bool true)] cM (Ci _) ?_))
  | (refine nh (.store 305 (.tmp 6) (.tmp 58)) rfl (ab rfl (w.heap.size + 1) 0 (rE (⟨true, false, false, oh.zero⟩) nR) BZ dj dr (qi (nL.zero w).one) ?_)))
 intro w7 B7 g7 sw;clear sw;replace B7 := oH (L := rE (⟨true, false, false, oh.zero⟩) nR) B7 dv;exact jQ
def tK : List Ev -> Nat
 | [] => 0
 | e :: l => e.data.length + tK l
structure Cj (x : Xc) : Prop where
 i : yl x
 d : x.lg = 2 -> x.d.ok
 l : x.left <= 30
theorem Es (x : Xc) (e : Ev) : (ou x e).2.d.heard.length <= x.d.heard.length + e.data.length := by
 unfold ou;split
 ·
  split
  ·show (qI x.d).1.heard.length <= _;unfold qI; split <;> simp
  ·simp
 ·
  split
  ·exact yY x.d e
  ·simp
theorem Rc (x : Xc) (e : Ev) : (ou x e).2.left <= x.left := by
 unfold ou
 (repeat' split) <;> (first | exact Int.le_refl _ | (show x.left - 1 <= x.left; omega))
theorem Re (x : Xc) (e : Ev) : (ou x e).2.y = x.y := by
 unfold ou
 (repeat' split) <;> rfl
theorem Cj.step {x : Xc} (h : Cj x) (e : Ev) (he : (ou x e).1.ends = false) : Cj (ou x e).2 := by
 refine ⟨Kk h.i e he, fun hl => ?_, Int.le_trans (Rc x e) h.l⟩;have hl' : x.lg = 2 := by rw [<- (wk x e).2.2.2.2.2.2.1]; exact hl
 unfold ou at he ⊢;split
 ·rename_i hk;rw [if_pos hk] at he;rw [if_neg (fun c => absurd c.1 (of_decide_eq_false he))];exact h.d hl'
 ·
  first
   | exact Bh _ _ (h.d hl')
   | (rw [if_pos hl']; exact Bh _ _ (h.d hl'))
theorem Vd {x : Xc} (h : x.lg ≠ 2) (e : Ev) : (ou x e).1 = Ws x.y x.left e /\ (ou x e).2.left = if e.kind = 1 then x.left - 1 else x.left := by
 unfold ou Ws;by_cases k1 : e.kind = 1
 ·simp [k1, h]
 ·simp [k1, h]
theorem Ve {x : Xc} (h : x.lg = 2) (hs : x.d.st = 0) (hy : x.d.y = x.y) (hok : x.d.ok) (e : Ev) : (ou x e).1 = Ra x.y x.left x.d.op (pB x.d.heard) e /\ ((ou x e).2.left, (ou x e).2.d.op, pB (ou x e).2.d.heard) = Rb x.y x.left x.d.op (pB x.d.heard) e := by
 obtain ⟨r1, r2⟩ := yX x.d hok hs e.data;unfold ou Ra Rb;by_cases k1 : e.kind = 1
 ·
  simp only [if_pos k1];refine ⟨eu, ?_⟩;split
  ·unfold qI; rw [if_neg (by rw [hs]; decide)]
  ·rfl
 simp only [if_neg k1, if_pos h];by_cases kp : e.port = x.y.port
 case neg =>
  have hD : n6 x.d e = (x.d, []) := by unfold n6; rw [if_pos (.inr (by rw [hy]; exact kp))]
  rw [hD];simp only [if_pos (show e.port ≠ x.y.port from kp)];refine ⟨?_, eu⟩;unfold Fz uy.no;simp [hs, kp]
 have kpn : ¬ (e.port ≠ x.y.port) := fun c => c kp
 have h0 : ¬ (x.d.st ≠ 0 \/ e.port ≠ x.d.y.port) := by rw [hs, hy]; simp [kp]
 simp only [if_neg kpn];by_cases k3 : e.kind = 3
 ·
  simp only [if_pos k3];cases hop : x.d.op with
  | true =>
   have hD : n6 x.d e = (x.d, []) := by unfold n6; rw [if_neg h0, if_pos k3, if_pos hop]
   rw [hD];refine ⟨?_, by rw [hop]⟩;unfold Fz;simp [hs, kp, k3]
  | false =>
   have hD : (n6 x.d e).1 = { x.d with op := true } := by unfold n6; rw [if_neg h0, if_pos k3, if_neg cL]
   rw [hD];refine ⟨?_, eu⟩;unfold Fz;simp [hs, kp, k3]
 simp only [if_neg k3];by_cases k5 : e.kind = 5
 ·
  have hD : (n6 x.d e).1 = { x.d with st := 2 } := by unfold n6; rw [if_neg h0, if_neg k3, if_neg (by rw [k5]; decide), if_pos k5]
  simp only [if_pos k5];rw [hD];refine ⟨?_, eu⟩;unfold Fz;simp [kp, k5]
 simp only [if_neg k5];by_cases k4 : e.kind = 4
 case neg =>
  have hD : n6 x.d e = (x.d, []) := by unfold n6; rw [if_neg h0, if_neg k3, if_neg k4, if_neg k5]
  rw [hD];simp only [if_pos (show e.kind ≠ 4 from k4)];refine ⟨?_, eu⟩;unfold Fz uy.no;simp [hs, kp, k3, k4, k5]
 simp only [if_neg (show ¬ (e.kind ≠ 4) from fun c => c k4)];cases hop : x.d.op with
 | false =>
  have hD : n6 x.d e = (x.d, []) := by unfold n6; rw [if_neg h0, if_neg k3, if_pos k4, if_neg cL]
  rw [hD];refine ⟨?_, by rw [hop]; rfl⟩;unfold Fz;simp [hs, kp, k4]
 | true =>
  rw [hy] at r1;simp only [if_true];rw [<- r1];cases hf : oU x.y (n9 (x.d.heard ++ e.data)) with
  | some m =>
   have hD : (n6 x.d e).1 = { x.d with heard := x.d.heard ++ e.data, msg := m, st := 1 } := by unfold n6; rw [if_neg h0, if_neg k3, if_pos k4, if_pos hop, show oU x.d.y (n9 (x.d.heard ++ e.data)) = some m by rw [hy]; exact hf]
   rw [hD];refine ⟨?_, by rw [<- r2]; simp [hop]⟩;unfold Fz;simp [kp, k4]
  | none =>
   have hD : (n6 x.d e).1 = { x.d with heard := x.d.heard ++ e.data } := by unfold n6; rw [if_neg h0, if_neg k3, if_pos k4, if_pos hop, show oU x.d.y (n9 (x.d.heard ++ e.data)) = none by rw [hy]; exact hf]
   rw [hD];refine ⟨?_, by rw [<- r2]; simp [hop]⟩;unfold Fz;simp [kp, k4, hs]
def wX (w : World) (hv : Value) (E : Nat -> Prop) (vn : Value) (x : Xc) : Prop :=
 (x.lg ≠ 2 /\ ∃ gc, C9 w hv gc vn x.y x.left /\ E = (fun i => i = gc)) \/ (x.lg = 2 /\ ∃ gc go gj, ub w hv gc go gj vn x.y x.left x.d.op (pB x.d.heard) /\ E = CS gc go gj)
def Wj (h : uy) (hv : Value) (E : Nat -> Prop) (vn : Value) (x : Xc) (w : World) (e : Ending) (w' : World) : Prop := ∃ ds, e = .returned (.agg (rE h ds).toArray) /\ nL w' ds h.msg /\ wX w' hv E vn x /\ pT NV 0 E w w'
theorem wX.below {w w' : World} {hv : Value} {E : Nat -> Prop} {vn : Value} {x : Xc} (h : wX w hv E vn x) (k : Below w.heap.size w w') : wX w' hv E vn x := by
 rcases h with ⟨h1, gc, h2, h3⟩ | ⟨h1, gc, go, gj, h2, h3⟩
 ·exact .inl ⟨h1, gc, h2.below k, h3⟩
 ·exact .inr ⟨h1, gc, go, gj, h2.below k, h3⟩
theorem Rf {w0 : World} {hv : Value} {E : Nat -> Prop} {vn : Value} {x : Xc} (h : wX w0 hv E vn x) : ∃ f caps, hv = .func (.func f) #[] caps /\ (∀ (a : Value) V, (callFunc f (#[a] ++ caps)).run prog V = .ok (.enter f (#[a] ++ caps)) V) /\
  ∀ (w : World) (x : Xc) (e : Ev), wX w hv E vn x -> Cj x -> y9 w vn x.y.q.name -> x.y.sv.ip.length = 16 -> IB e -> x.d.heard.length + e.data.length <= 8796093022208 -> Calls prog f (#[.agg (qm e).toArray] ++ caps) w (Wj (ou x e).1 hv E vn (ou x e).2 w) := by
 have key : (∃ gt gq, hv = .func (.func 245) #[] #[.pointer (some ⟨gt, 0, none⟩), .pointer (some ⟨gq, 0, none⟩)]) \/ (∃ gt gq go gj, hv = .func (.func 244) #[] #[.pointer (some ⟨gt, 0, none⟩), .pointer (some ⟨gq, 0, none⟩), .pointer (some ⟨go, 0, none⟩), .pointer (some ⟨gj, 0, none⟩)]) := by
  rcases h with ⟨h1, gc, h2, h3⟩ | ⟨h1, gc, go, gj, h2, h3⟩
  ·obtain ⟨gt, gq, e, _⟩ := h2.f; exact .inl ⟨gt, gq, e⟩
  ·obtain ⟨gt, gq, e, _⟩ := h2.f; exact .inr ⟨gt, gq, go, gj, e⟩
 rcases key with ⟨gt, gq, hh⟩ | ⟨gt, gq, go, gj, hh⟩
 ·
  refine ⟨_, _, hh, fun a V => by kernel_rfl, fun w x e h ok hN hy he hb => ?_⟩;rcases h with ⟨h1, gc, h2, h3⟩ | ⟨h1, gc, go, gj, h2, h3⟩
  case inr => exact ma
  obtain ⟨a1, a2⟩ := Vd h1 e;have L := NY gt gq gc vn x.y x.left e w (hh ▸ h2) hN hy ok.i.lf ok.l he aA;refine L.mono ?_;rintro e' w' ⟨ds, c1, c2, c3, c4⟩;rw [<- hh] at c3;refine ⟨ds, by rw [a1]; exact c1, by rw [a1]; exact c2, .inl ⟨by rw [(wk x e).2.2.2.2.2.2.1]; exact h1, gc, by rw [Re, a2]; exact c3, h3⟩, ?_⟩;rw [h3];exact pT.grown c4 h2.c di rfl
 ·
  refine ⟨_, _, hh, fun a V => by kernel_rfl, fun w x e h ok hN hy he hb => ?_⟩;rcases h with ⟨h1, gc, h2, h3⟩ | ⟨h1, gc, go', gj', h2, h3⟩
  case inl => exact ma
  have hE := h2;obtain ⟨gt', gq', e', _⟩ := h2.f;rw [hh] at e';injection e' with _ _ e';simp only [Array.mk.injEq, List.cons.injEq, Value.pointer.injEq, Option.some.injEq, Addr.mk.injEq, and_true, true_and] at e';obtain ⟨rfl, rfl, rfl, rfl⟩ := e';obtain ⟨hs, hyy⟩ := ok.i.cn h1;obtain ⟨a1, a2⟩ := Ve h1 hs hyy (ok.d h1) e;have hle := Ia x.d.heard.length x.d.heard (Nat.le_refl _);have L := NZ hv gt gq gc go gj vn x.y x.left x.d.op (pB x.d.heard) e w hh h2 hN hy ok.i.lf ok.l he ak;refine L.mono ?_;rintro e' w' ⟨ds, c1, c2, c3, c4⟩;rw [<- a2] at c3;exact ⟨ds, by rw [a1]; exact c1, by rw [a1]; exact c2, .inr ⟨by rw [(wk x e).2.2.2.2.2.2.1]; exact h1, gc, go, gj, by rw [Re]; exact c3, h3⟩, by rw [h3]; exact c4⟩
end Go.Proofs.YthnbcmlnpdabhaaGreat
