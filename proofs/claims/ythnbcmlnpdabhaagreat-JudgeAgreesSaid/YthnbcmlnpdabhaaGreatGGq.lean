/-
  Layer 12 (packed): what a name's reading comes to, plainly; octet and label.
-/
import Derived.Test.YthnbcmlnpdabhaaGreatGAq
namespace Go.Proofs.YthnbcmlnpdabhaaGreat
open _root_.Go.Proofs.Tryz
open Go.RowKit
set_option maxRecDepth 100000
set_option linter.unusedVariables false
structure GS where
 at' : Nat
 size : Nat
 bound : Nat
 behind : Option Nat
 acc : List (List UInt8)
inductive GO where
 | go (s : GS)
 | err (e : Int)
 | ok (l : List (List UInt8)) (n : Nat)
def pV (m : List UInt8) (s : GS) : GO :=
 if m.length <= s.at' then .err 1
 else if (m.getD s.at' 0).toNat = 0 then .ok s.acc (s.behind.getD (s.at' + 1))
 else if (m.getD s.at' 0).toNat <= 63 then
  if m.length < s.at' + 1 + (m.getD s.at' 0).toNat then .err 1
  else if 255 < s.size + ((m.getD s.at' 0).toNat + 1) then .err 3
  else .go { s with at' := s.at' + 1 + (m.getD s.at' 0).toNat, size := s.size + ((m.getD s.at' 0).toNat + 1), acc := s.acc ++ [(m.take (s.at' + 1 + (m.getD s.at' 0).toNat)).drop (s.at' + 1)] }
 else if (m.getD s.at' 0).toNat < 192 then .err 7
 else if m.length <= s.at' + 1 then .err 1
 else if s.bound <= (m.getD s.at' 0).toNat * 256 + (m.getD (s.at' + 1) 0).toNat - 49152 then .err 9
 else .go { s with at' := (m.getD s.at' 0).toNat * 256 + (m.getD (s.at' + 1) 0).toNat - 49152, bound := (m.getD s.at' 0).toNat * 256 + (m.getD (s.at' + 1) 0).toNat - 49152, behind := some (s.behind.getD (s.at' + 2)) }
inductive uU (m : List UInt8) : GS -> GO -> Prop where
 | err {s e} : pV m s = .err e -> uU m s (.err e)
 | ok {s l n} : pV m s = .ok l n -> uU m s (.ok l n)
 | go {s s' o} : pV m s = .go s' -> uU m s' o -> uU m s o
def vj (s : GS) : Nat := s.bound * 300 + (300 - s.size)
theorem Gs {m : List UInt8} {s s' : GS} (h : pV m s = .go s') (hs : s.size <= 255) : vj s' < vj s /\ s'.size <= 255 := by
 unfold pV at h
 repeat' split at h
 all_goals first
  | (injection h with h; subst h; simp only [vj]; constructor <;> omega)
  | exact GO.noConfusion h
theorem tU {m : List UInt8} {s : GS} {o : GO} {e : Int} (h : uU m s o) (he : pV m s = .err e) : o = .err e := by
 cases h <;> simp_all
theorem ED {m : List UInt8} {s : GS} {o : GO} {l n} (h : uU m s o) (he : pV m s = .ok l n) : o = .ok l n := by
 cases h <;> simp_all
theorem Kx {m : List UInt8} {s s' : GS} {o : GO} (h : uU m s o) (he : pV m s = .go s') : uU m s' o := by
 cases h <;> simp_all
def vI (w : World) (g : Nat) (m : List UInt8) (a z : Nat) (v : Value) : Prop := nj w g 363 [.string (bs m), .int .i64 a, .int .i64 z, v]
def Gt (e : Int) : List PanicEntry := [{ v := .iface 360 (.agg #[.int .i64 e]), recovered := false }]
def Jg (m : List UInt8) (g a z : Nat) (v : Value) (w : World) (e : Ending) (w' : World) : Prop :=
 e = .returned (.int .i64 ((m.getD a 0).toNat : Int)) /\ vI w' g m (a + 1) z v /\ w.grownBy w' (some g) /\ w'.heap.size = w.heap.size
def TN (x : Int) (g : Nat) (w : World) (e : Ending) (w' : World) : Prop := e = .panicked (Gt x) /\ w.grownBy w' (some g)
theorem Dp (g : Nat) (m : List UInt8) (a z : Nat) (v : Value) (w : World) (h : vI w g m a z v) (hl : m.length <= 4000000) (ha : a < m.length) :
  Calls prog 260 #[.pointer (some ⟨g, 0, none⟩)] w (Jg m g a z v w) := by
 have c0 := h.nf 0 rfl;have c1 := h.nf 1 rfl;have f1 := h.frozen 1;have ha' : (a : Int) < m.length := ak;have hd : m.getD a 0 = m[a] := by simp [ha]
 go_enter func260, ntmps260;go_wp2_with fail;go_quiet (fail);go_wp2_with fail;go_quiet (fail);go_wp2_with fail;go_ret;refine ⟨?_, ?_, sS (nT (sS (World.grownBy.refl _ _) _) _ _) _, by simp [World.setCell]⟩
 ·rw [hd]; exact ru (IntWalk.wrap64_in _ (by have := m[a].toNat_lt; omega))
 ·exact ((h.drewN _).set 1 _).drewN _
theorem Gu (g : Nat) (m : List UInt8) (a z : Nat) (v : Value) (w : World) (h : vI w g m a z v) (hl : m.length <= 4000000) (ha : m.length <= a) :
  Calls prog 260 #[.pointer (some ⟨g, 0, none⟩)] w (TN 1 g w) := by
 have c0 := h.nf 0 rfl;have c1 := h.nf 1 rfl;have ha' : (m.length : Int) <= a := ak;go_enter func260, ntmps260;exact kO
def Us (m : List UInt8) (g a z c : Nat) (l : List (List UInt8)) (lo : Nat) (w : World) (e : Ending) (w' : World) : Prop :=
 e = .returned (.tuple #[]) /\ ∃ v, vI w' g m (a + c) (z + (c + 1)) v /\ pL w' v (l ++ [(m.take (a + c)).drop a]) /\ Below lo w w' /\ (∀ k, v.ownBlock = some k -> lo <= k /\ k ≠ g)
theorem Gv (g : Nat) (m : List UInt8) (a z c : Nat) (v : Value) (w : World) (h : vI w g m a z v) (hl : m.length <= 4000000) (ha : a <= m.length) (hc : c <= 63) (hs : m.length < a + c) :
  Calls prog 261 #[.pointer (some ⟨g, 0, none⟩), .int .i64 c] w (TN 1 g w) := by
 have c0 := h.nf 0 rfl;have c1 := h.nf 1 rfl;have hs' : (m.length : Int) - a < c := ak;go_enter func261, ntmps261;exact kO
def Ut (m : List UInt8) (g a z c : Nat) (l : List (List UInt8)) (lo : Nat) (w : World) (e : Ending) (w' : World) : Prop :=
 (z + (c + 1) <= 255 /\ Us m g a z c l lo w e w') \/ (255 < z + (c + 1) /\ e = .panicked (Gt 3) /\ Below lo w w')
def OH (m : List UInt8) (g a z c : Nat) (l : List (List UInt8)) (lo : Nat) (w wx : World) : Prop :=
 ∃ v, vI wx g m a z v /\ pL wx v (l ++ [(m.take (a + c)).drop a]) /\ Below lo w wx /\ (∀ k, v.ownBlock = some k -> lo <= k /\ k ≠ g)
theorem Uu {m : List UInt8} {g a z c gg cap : Nat} {l : List (List UInt8)} {lo : Nat} {w W w1 : World} {v : Value} {o : Obj} (h1 : vI w1 g m a z v) (hB : Below lo w W) (hlo : lo <= g) (hgl : g < W.heap.size)
  (hOB : Hid (∀ k, v.ownBlock = some k -> lo <= k /\ k ≠ g))
  (hown : w1.ownsRow 0 9 1 (.slice (some ⟨gg, 0, none⟩) (l.length + 1) cap) (l.length + 1) (l.map (fun t => Value.string (bs t)) ++ [.string (bs ((m.take (a + c)).drop a))]))
  (hgrow : (W.alloc o).drew.grownBy w1 v.ownBlock) (hat : v.ownBlock = some gg \/ gg = W.heap.size + 1) :
  OH m g a z c l lo w (w1.setCell ⟨g, 3, none⟩ (.slice (some ⟨gg, 0, none⟩) (l.length + 1) cap)) := by
 have hne : gg ≠ g /\ lo <= gg := by
  rcases hat with h | h
  ·have := hOB.out gg h; exact ⟨this.2, this.1⟩
  ·have := hB.size; omega
 refine ⟨_, h1.set 3 _, ?_, ?_, ?_⟩
 ·have := ownsRow_setCell_other hown (a := ⟨g, 3, none⟩) (by simp [Value.ownBlock]; omega) (.slice (some ⟨gg, 0, none⟩) (l.length + 1) cap);unfold pL;simpa using this
 ·refine Below.setCell ?_ hlo _;exact (hB.alloc ak o).drew.grown hgrow al (fun k hk => (hOB.out k hk).1)
 ·intro k hk;simp [Value.ownBlock] at hk;omega
set_option maxHeartbeats 8000000 in
theorem Mf (g : Nat) (m : List UInt8) (a z c : Nat) (v : Value) (l : List (List UInt8)) (lo : Nat) (w : World) (h : vI w g m a z v) (ht : pL w v l) (hlo : lo <= g) (hob : ∀ k, v.ownBlock = some k -> lo <= k /\ k ≠ g) (hl : m.length <= 4000000) (hll : l.length <= 300) (hz : z <= 255)  (hc : c <= 63) (hs : a + c <= m.length) :
  Calls prog 261 #[.pointer (some ⟨g, 0, none⟩), .int .i64 c] w (Ut m g a z c l lo w) := by
 have c0 := h.nf 0 rfl;have c1 := h.nf 1 rfl;have c3 := h.nf 3 rfl;have hs' : (c : Int) <= (m.length : Int) - a := ak;have hs2 : (a : Int) + c <= m.length := ak;go_enter func261, ntmps261;go_wp2_with fail;go_quiet (fail);go_upto_region 2 with fail;obtain ⟨i0, hi0, hz0, hz1, hz2⟩ := info_parts zh;obtain ⟨W, hW⟩ : ∃ W, W = w.drewN nq := eE;rw [<- hW];have h' : vI W g m a z v := hW ▸ h.drewN _;have ht' : pL W v l := hW ▸ ht;have hB : Below lo w W := gK;have hOB := Hh hob;clear hW h ht hob c0 c1 c3;have hgl := h'.lt;go_cut [] (fun wx => OH m g a z c l lo w wx)
 case first =>
  have c0 := h'.nf 0 rfl;have c1 := h'.nf 1 rfl;have c3 := h'.nf 3 rfl;have f3 := h'.frozen 3;have hw1 : IntKind.i64.wrap ((a : Int) + c) = (a : Int) + c := iI;have hn1 : ((a : Int) + c).toNat = a + c := ak;have hp1 : (0 : Int) <= (a : Int) + c := ak;have hp2 : (a : Int) <= (a : Int) + c := ak;have hne : some g ≠ v.ownBlock := fun e => (hOB.out g e.symm).2 rfl
  go_region_law (refine step_append_lies _ rfl (.tmp 22) (.tmp 38) _ aI 0 9 i0 _ 1 16 underlying26 hi0 hz0 hz1 hz2 rfl aj v l.length _ aI (World.ownsRow.alloc ht' _) ⟨W.heap.size, 0, none⟩ 1 1 [.string (bs ((m.take (a + c)).drop a))] aI aI (xB _ _ _ _ rfl) aJ ak aA ak (Nat.zero_le _) (W.heap.size + 1) ag ?_; intro gg cap w1 hown1 hgrow hat hlt; have h1 : vI w1 g m a z v := (nj.alloc (nj.drew h') _).grown hgrow hne; have k3 := h1.nf 3 rfl; have kf := h1.frozen 3; clear c0 c1 c3);all_goals (go_wp2_with fail; go_meet; exact Uu h1 hB hlo hgl hOB hown1 hgrow hat)
 case rest =>
  obtain ⟨v', h2, ht2, hB2, hob2⟩ := hcut;clear h' ht' hB hOB;have c1 := h2.nf 1 rfl;have c2 := h2.nf 2 rfl;have f1 := h2.frozen 1;have f2 := h2.frozen 2;have HOB := Hh hob2;clear hob2;by_cases hz3 : z + (c + 1) <= 255
  ·
   have hz3' : (z : Int) + ((c : Int) + 1) <= 255 := ak;go_wp2_with fail;go_end0;refine .inl ⟨hz3, rfl, v', ?_, ?_, (hB2.setCell hlo _).setCell hlo _, HOB.out⟩
   ·have := (h2.set 1 (.int .i64 ((a : Int) + c))).set 2 (.int .i64 ((z : Int) + (c + 1)));unfold vI;rw [show ((a + c : Nat) : Int) = (a : Int) + c by omega, show ((z + (c + 1) : Nat) : Int) = (z : Int) + (c + 1) by omega];exact this
   ·
    have hk : ∀ k, v'.ownBlock = some k -> k ≠ g := fun k hk => (HOB.out k hk).2
    exact ownsRow_setCell_other (ownsRow_setCell_other ht2 (fun e => hk g e rfl) _) (fun e => hk g e rfl) _
  ·have hz3' : (255 : Int) < (z : Int) + ((c : Int) + 1) := ak;go_wp2_with fail;exact ⟨rfl, .inr ⟨ak, rfl, (hB2.setCell hlo _).setCell hlo _⟩⟩
def Sb (m : List UInt8) (g lo : Nat) (w : World) (o : GO) (e : Ending) (w' : World) : Prop :=
 match o with
 | .err x => e = .panicked (Gt x) /\ Below lo w w'
 | .ok l n => e = .returned (.int .i64 n) /\ ∃ v a z, vI w' g m a z v /\ pL w' v l /\ Below lo w w' /\ (∀ k, v.ownBlock = some k -> lo <= k /\ k ≠ g)
 | .go _ => False
def OI : Option Nat -> Int
 | none => -1
 | some b => b
def VA (m : List UInt8) (g lo : Nat) (w : World) (o : GO) (k : Nat) (behind bound : Value) (wr : World) : Prop :=
 ∃ (s : GS) (v : Value), vj s <= k /\ uU m s o /\ s.at' <= m.length /\ s.bound <= m.length /\ s.size <= 255 /\ s.acc.length <= s.size /\ behind = .int .i64 (OI s.behind) /\ (∀ b, s.behind = some b -> b <= m.length) /\ bound = .int .i64 s.bound /\
  vI wr g m s.at' s.size v /\ pL wr v s.acc /\ Below lo w wr /\ (∀ k, v.ownBlock = some k -> lo <= k /\ k ≠ g)
theorem zP {m : List UInt8} {s s' : GS} {o : GO} (hg : uU m s o) (h : pV m s = .go s') (hs : s.size <= 255) : uU m s' o /\ vj s' < vj s := ⟨Kx hg h, (Gs h hs).1⟩
section
variable {m : List UInt8} {at' size bound c : Nat} {behind : Option Nat} {acc : List (List UInt8)}
theorem zm (h1 : ¬ m.length <= at') (hc : 0 = (m.getD at' 0).toNat) : pV m ⟨at', size, bound, behind, acc⟩ = .ok acc (behind.getD (at' + 1)) := by
 unfold pV; simp only; rw [if_neg h1, if_pos hc.symm]
theorem Gw (h1 : ¬ m.length <= at') (hc : c = (m.getD at' 0).toNat) (h0 : c ≠ 0) (h63 : c <= 63) (hs : m.length < at' + 1 + c) : pV m ⟨at', size, bound, behind, acc⟩ = .err 1 := by
 unfold pV; simp only; rw [<- hc, if_neg h1, if_neg h0, if_pos h63, if_pos hs]
theorem Ky (h1 : ¬ m.length <= at') (hc : c = (m.getD at' 0).toNat) (h0 : c ≠ 0) (h63 : c <= 63) (hs : ¬ m.length < at' + 1 + c) (hz : 255 < size + (c + 1)) : pV m ⟨at', size, bound, behind, acc⟩ = .err 3 := by
 unfold pV; simp only; rw [<- hc, if_neg h1, if_neg h0, if_pos h63, if_neg hs, if_pos hz]
theorem Jh (h1 : ¬ m.length <= at') (hc : c = (m.getD at' 0).toNat) (h0 : c ≠ 0) (h63 : c <= 63) (hs : ¬ m.length < at' + 1 + c) (hz : ¬ 255 < size + (c + 1)) :
  pV m ⟨at', size, bound, behind, acc⟩ = .go ⟨at' + 1 + c, size + (c + 1), bound, behind, acc ++ [(m.take (at' + 1 + c)).drop (at' + 1)]⟩ := by
 unfold pV; simp only; rw [<- hc, if_neg h1, if_neg h0, if_pos h63, if_neg hs, if_neg hz]
theorem OJ (h1 : ¬ m.length <= at') (hc : c = (m.getD at' 0).toNat) (h63 : ¬ c <= 63) (h192 : c < 192) : pV m ⟨at', size, bound, behind, acc⟩ = .err 7 := by
 unfold pV; simp only; rw [<- hc, if_neg h1, if_neg ak, if_neg h63, if_pos h192]
theorem Dq (h1 : ¬ m.length <= at') (hc : c = (m.getD at' 0).toNat) (h192 : ¬ c < 192) (hs : m.length <= at' + 1) : pV m ⟨at', size, bound, behind, acc⟩ = .err 1 := by
 unfold pV; simp only; rw [<- hc, if_neg h1, if_neg ak, if_neg ak, if_neg h192, if_pos hs]
theorem Kz {d : Nat} (h1 : ¬ m.length <= at') (hc : c = (m.getD at' 0).toNat) (h192 : ¬ c < 192) (hs : ¬ m.length <= at' + 1) (hd : d = (m.getD (at' + 1) 0).toNat) (hb : bound <= c * 256 + d - 49152) : pV m ⟨at', size, bound, behind, acc⟩ = .err 9 := by
 unfold pV; simp only; rw [<- hc, <- hd, if_neg h1, if_neg ak, if_neg ak, if_neg h192, if_neg hs, if_pos hb]
theorem Ji {d : Nat} (h1 : ¬ m.length <= at') (hc : c = (m.getD at' 0).toNat) (h192 : ¬ c < 192) (hs : ¬ m.length <= at' + 1) (hd : d = (m.getD (at' + 1) 0).toNat) (hb : ¬ bound <= c * 256 + d - 49152) :
  pV m ⟨at', size, bound, behind, acc⟩ = .go ⟨c * 256 + d - 49152, size, c * 256 + d - 49152, some (behind.getD (at' + 2)), acc⟩ := by
 unfold pV; simp only; rw [<- hc, <- hd, if_neg h1, if_neg ak, if_neg ak, if_neg h192, if_neg hs, if_neg hb]
end
theorem vI.lt {w : World} {g : Nat} {m : List UInt8} {a z : Nat} {v : Value} (h : vI w g m a z v) : g < w.heap.size := nj.lt h
theorem zQ {lo g : Nat} {w wr w1 : World} (hB : Below lo w wr) (hg : wr.grownBy w1 (some g)) (hlt : g < wr.heap.size) (hlo : lo <= g) : Below lo w w1 := hB.grown hg ak aK
set_option maxHeartbeats 4000000 in
theorem OK (g : Nat) (m : List UInt8) (a : Nat) (lo : Nat) (o : GO) (w : World) (h : vI w g m a 1 (.slice none 0 0)) (hlo : lo <= g) (hl : m.length <= 4000000) (ha : a <= m.length) (ho : uU m ⟨a, 1, a, none, []⟩ o) :
  Calls prog 255 #[.pointer (some ⟨g, 0, none⟩)] w (Sb m g lo w o) := by
 have c1 := h.nf 1 rfl;go_enter func255, ntmps255;go_wp2_with fail;go_loopg [3, 4] (vj ⟨a, 1, a, none, []⟩) (fun k behind bound wr => VA m g lo w o k behind bound wr)
 case atStart => exact ⟨⟨a, 1, a, none, []⟩, .slice none 0 0, Nat.le_refl _, ho, ha, ha, ag, ag, rfl, ag, rfl, h, pL.nil _, Below.refl _ _, by simp [Value.ownBlock]⟩
 case round =>
  clear c1 h ho;obtain ⟨⟨at', size, bound, behind, acc⟩, v, hk, hG, hat, hbd, hsz, hacc, rfl, hbh, rfl, hR, hT, hB, hob⟩ := hrel;simp only at hk hG hat hbd hsz hacc hbh hR hT;have HG := Hh hG;have HOB := Hh hob;have HBH := Hh hbh;clear hG hob hbh;by_cases h1 : m.length <= at'
  ·have e1 : o = .err 1 := tU HG.out (by simp [pV, h1]);subst e1;go_wp2_with fail;refine (Gu g m at' size v _ hR hl h1).mono ?_;rintro e w1 ⟨rfl, hg⟩;go_wp2_with fail;exact ⟨rfl, rfl, hB.grown hg (by have := hR.lt; omega) aK⟩
  ·
   have C := Dp g m at' size v wr hR hl ak;obtain ⟨c, hc⟩ : ∃ c, c = (m.getD at' 0).toNat := eE;have hc255 : c < 256 := by rw [hc]; exact UInt8.toNat_lt _
   unfold Jg at C;rw [<- hc] at C;have HC := Hh hc;clear hc;go_wp2_with fail;refine C.mono ?_;rintro e w1 ⟨rfl, hR1, hg1, hs1⟩;have hB1 : Below lo w w1 := hB.grown hg1 (by have := hR.lt; omega) aK;have hT1 : pL w1 v acc := hT.grown hg1 hR aj;clear C hR hT hB hg1 hs1;clear wr;have hg1 := hR1.lt;by_cases h0 : c = 0
   ·
    subst h0;have r1 := hR1.nf 1 rfl;cases behind with
    | none => have e1 : o = .ok acc (at' + 1) := ED HG.out (zm h1 HC.out);subst e1;unfold OI;go_wp2_with fail;go_ret;exact ⟨ru (by go_num), v, _, _, hR1, hT1, hB1, HOB.out⟩
    | some b => have e1 : o = .ok acc b := ED HG.out (zm h1 HC.out);subst e1;unfold OI;have hb0 : (0 : Int) <= b := ak;go_wp2_with fail;go_ret;exact ⟨rfl, v, _, _, hR1, hT1, hB1, HOB.out⟩
   ·
    have h0' : ((c : Int) == 0) = false := al;by_cases h63 : c <= 63
    ·
     have h63' : (c : Int) <= 63 := ak;by_cases hs : m.length < at' + 1 + c
     ·have e1 : o = .err 1 := tU HG.out (Gw h1 HC.out h0 h63 hs);subst e1;clear h0;go_wp2_with fail;refine (Gv g m (at' + 1) size c v _ hR1 hl ak h63 ak).mono ?_;exact mg
     ·
      have C := Mf g m (at' + 1) size c v acc lo w1 hR1 hT1 hlo HOB.out hl ak hsz h63 ak;by_cases hz : 255 < size + (c + 1)
      ·
       have e1 : o = .err 3 := tU HG.out (Ky h1 HC.out h0 h63 hs hz);subst e1;clear h0;go_wp2_with fail;refine C.mono ?_;rintro e w2 (⟨h, _⟩ | ⟨_, rfl, hb⟩)
       ·omega
       go_wp2_with fail;exact ⟨rfl, rfl, hB1.trans hb⟩
      ·
       obtain ⟨G2, M2⟩ := zP HG.out (Jh h1 HC.out h0 h63 hs hz) hsz;have HG2 := Hh G2;have hm2 := Nat.lt_of_lt_of_le M2 hk;clear h0 G2 M2;go_wp2_with fail;refine C.mono ?_;rintro e w2 (⟨_, rfl, v2, hR2, hT2, hB2, ho2⟩ | ⟨h, _⟩)
       ·
        go_wp2_with fail;go_roundg (vj ⟨at' + 1 + c, size + (c + 1), bound, behind, acc ++ [(m.take (at' + 1 + c)).drop (at' + 1)]⟩)
        case measure => exact hm2
        case rel => exact ⟨_, v2, Nat.le_refl _, HG2.out, al, hbd, al, al, rfl, HBH.out, rfl, hR2, hT2, hB1.trans hB2, ho2⟩
       ·omega
    ·
     have h63' : (63 : Int) < c := ak;by_cases h192 : c < 192
     ·have h192' : (c : Int) < 192 := ak;have e1 : o = .err 7 := tU HG.out (OJ h1 HC.out h63 h192);subst e1;clear h0;go_wp2_with fail;exact ⟨rfl, rfl, hB1⟩
     ·
      have h192' : (192 : Int) <= c := ak;by_cases hps : m.length <= at' + 1
      ·have e1 : o = .err 1 := tU HG.out (Dq h1 HC.out h192 hps);subst e1;clear h0;go_wp2_with fail;refine (Gu g m (at' + 1) size v _ hR1 hl hps).mono ?_;exact mg
      ·
       have C := Dp g m (at' + 1) size v w1 hR1 hl ak;obtain ⟨d, hd⟩ : ∃ d, d = (m.getD (at' + 1) 0).toNat := eE;have hd255 : d < 256 := by rw [hd]; exact UInt8.toNat_lt _
       unfold Jg at C;rw [<- hd] at C;have HD := Hh hd;clear hd h0;go_wp2_with fail;refine C.mono ?_;rintro e w2 ⟨rfl, hR2, hg2, hs2⟩;have hB2 : Below lo w w2 := zQ hB1 hg2 hg1 hlo;have hT2 : pL w2 v acc := hT1.grown hg2 hR1 aj;clear C hR1 hT1 hB1 hg2 hs2 hg1;clear w1;have r1 := hR2.nf 1 rfl;have fr1 := hR2.frozen 1;by_cases hpb : bound <= c * 256 + d - 49152
       ·have e1 : o = .err 9 := tU HG.out (Kz h1 HC.out h192 hps HD.out hpb);subst e1;have hpb' : (bound : Int) <= (c : Int) * 256 + d - 49152 := ak;go_wp2_with fail;exact ⟨rfl, rfl, hB2⟩
       ·
        obtain ⟨G2, M2⟩ := zP HG.out (Ji h1 HC.out h192 hps HD.out hpb) hsz;have HG2 := Hh G2;have HM := Hh (Nat.lt_of_lt_of_le M2 hk);have hpb' : (c : Int) * 256 + d - 49152 < bound := ak;clear G2 M2;obtain ⟨q, hq⟩ : ∃ q, q = c * 256 + d - 49152 := eE;rw [<- hq] at HG2 HM;have hqi : (c : Int) * 256 + d - 49152 = q := ak;have HQ := Hh hqi;have hqb : q < bound := ak;have hps2 : at' + 2 <= m.length := ak;clear hq hqi hpb h1 hps hk;have hR3 : ∀ u, u = Value.int .i64 (q : Int) -> vI (w2.setCell ⟨g, 1, none⟩ u) g m q size v := fun u hu => by subst hu; exact hR2.set 1 _
        have hT3 : ∀ u, pL (w2.setCell ⟨g, 1, none⟩ u) v acc := fun u => ownsRow_setCell_other hT2 (fun e => (HOB.out g e).2 rfl) _
        have HR3 := Hh hR3;have HT3 := Hh hT3;clear hR3 hT3;cases behind with
        | none =>
         unfold OI;go_wp2_with fail;go_roundg (vj ⟨q, size, q, some (at' + 2), acc⟩)
         case measure => exact HM.out
         case rel => exact ⟨_, v, Nat.le_refl _, HG2.out, ei, ei, hsz, hacc, congrArg (Value.int .i64) (show (at' : Int) + 1 + 1 = ((at' + 2 : Nat) : Int) by omega), (fun b hb => by injection hb with hb; subst hb; exact hps2), by rw [HQ.out], HR3.out _ (by rw [HQ.out]), HT3.out _, hB2.setCell hlo _, HOB.out⟩
        | some b =>
         unfold OI;have hb0 : (0 : Int) <= b := ak;go_wp2_with fail;go_roundg (vj ⟨q, size, q, some b, acc⟩)
         case measure => exact HM.out
         case rel => exact ⟨_, v, Nat.le_refl _, HG2.out, ei, ei, hsz, hacc, rfl, fun b' hb' => HBH.out b' hb', by rw [HQ.out], HR3.out _ (by rw [HQ.out]), HT3.out _, hB2.setCell hlo _, HOB.out⟩
theorem zR {P : Program} {fn : Func} {c₀ : Frame} {cs : List Frame} {R : Ending -> FrameMode -> World -> Prop} {u' : FrameMode} {c : Code} {a : Act} {w : World}
  (h : c.wp P (bodyPost P fn (fun e w' => R e u' w')) a w) : c.wpS P (bodyPostS P fn c₀ cs R) a ({ c₀ with mode := u' } :: cs) w := by
 refine wpS_of_wp (Code.wp_mono ?_ h);intro e a' w' hq;cases e with
 | normal => exact ⟨hq.1, u', rfl, hq.2⟩
 | ret => exact ⟨hq.1, u', rfl, hq.2⟩
 | panic ch => exact ⟨hq.1, u', rfl, hq.2⟩
 | outgrown => exact ⟨u', hq⟩
 | exit id => exact hq
 | goto l => exact hq
theorem Dr {P : Program} {fn : Func} {c₀ : Frame} {cs : List Frame} {R : Ending -> FrameMode -> World -> Prop} {u : FrameMode} {c : Code} {a : Act} {w : World} (hu : c₀.mode = u)
  (h : c.wp P (bodyPost P fn (fun e w' => R e u w')) a w) : c.wpS P (bodyPostS P fn c₀ cs R) a (c₀ :: cs) w := by
 have := zR (c₀ := c₀) (cs := cs) h;cases c₀; simp at hu; subst hu; exact this
theorem zp {P : Program} {Q : Exit -> Act -> World -> Prop} {c : Code} {t : Array Value} {d : List Deferred} {w : World} (l : List Value) (e : t = l.toArray) (h : c.wp P Q ⟨l.toArray, d⟩ w) : c.wp P Q ⟨t, d⟩ w := e ▸ h
theorem Mg (p q r : Addr) (w : World) :
  CallsD prog 254 #[.pointer (some p), .pointer (some q), .pointer (some r)] .returning w fun e u' w' => e = .returned (.tuple #[]) /\ u' = .returning /\ w' = w := by
 refine callsD_of_wpS func254 rfl fun c₀ cs hu => ?_
 apply wpS_seq;apply wpS_region;simp [wpOpsS, go_sem, recoverD, hu, ntmps254, Exit.thenS];refine Dr hu ?_;refine zp [.pointer (some p), .pointer (some q), .pointer (some r), .nilIface, undef, undef, .nilIface, undef, undef, undef, undef, undef, undef, undef, undef, undef, undef, undef, undef] aI ?_;exact lE
def Uv (b0 : Nat) (x : Int) (w w' : World) : Prop := nj w' b0 26 [.slice none 0 0] /\ nj w' (b0 + 1) 3 [.int .i64 0] /\ nj w' (b0 + 2) 142 [.int .i64 x] /\ Below b0 w w'
theorem Mh (b0 : Nat) (v0 v1 v2 : Value) (x : Int) (w : World) (h0 : nj w b0 26 [v0]) (h1 : nj w (b0 + 1) 3 [v1]) (h2 : nj w (b0 + 2) 142 [v2]) :
  CallsD prog 254 #[.pointer (some ⟨b0, 0, none⟩), .pointer (some ⟨b0 + 1, 0, none⟩), .pointer (some ⟨b0 + 2, 0, none⟩)] (.panicking (Gt x)) w fun e u' w' =>
   e = .returned (.tuple #[]) /\ u' = .panicking [{ v := .iface 360 (.agg #[.int .i64 x]), recovered := true }] /\ Uv b0 x w w' := by
 have hTa : ∀ w : World, (Instr.typeAssert (.iface 360 (.agg #[.int .i64 x])) 20 360 true).run prog w = .ok (.tuple #[.agg #[.int .i64 x], .bool true]) w := fun _ => by kernel_rfl
 have c0 := h0.nf 0 rfl;have c1 := h1.nf 0 rfl;have c2 := h2.nf 0 rfl;have f0 := h0.frozen 0;have f1 := h1.frozen 0;have f2 := h2.frozen 0;refine callsD_of_wpS func254 rfl fun c₀ cs hu => ?_
 unfold Gt at hu;apply wpS_seq;apply wpS_region;simp [wpOpsS, go_sem, recoverD, hu, ntmps254, Exit.thenS];refine zR (u' := .panicking [{ v := .iface 360 (.agg #[.int .i64 x]), recovered := true }]) ?_;refine zp [.pointer (some ⟨b0, 0, none⟩), .pointer (some ⟨b0 + 1, 0, none⟩), .pointer (some ⟨b0 + 2, 0, none⟩), .iface 360 (.agg #[.int .i64 x]), undef, undef, .iface 360 (.agg #[.int .i64 x]), undef, undef, undef, undef, undef, undef, undef, undef, undef, undef, undef, undef] aI ?_;clear hu;have l0 := h0.lt;have l1 := h1.lt;have l2 := h2.lt;go_wp2;go_region;all_goals go_end0
 all_goals
  refine ⟨rfl, rfl, nj.drew (nj.alloc (nj.sF (nj.sF (h0.set 0 _) ag _) ag _) _), nj.drew (nj.alloc (nj.sF (nj.set (h1.sF ag _) 0 _) ag _) _), nj.drew (nj.alloc (nj.set (nj.sF (h2.sF ag _) ag _) 0 _) _), ?_⟩;exact (((((Below.refl _ _).setCell ag _).setCell ag _).setCell ag _).alloc al _).drew
def Sc (m : List UInt8) : Nat -> GS -> GO
 | 0, _ => .err 15
 | k + 1, s => match pV m s with
  | .go s' => Sc m k s'
  | .err e => .err e
  | .ok l n => .ok l n
theorem Mi (m : List UInt8) : ∀ (k : Nat) (s : GS), vj s < k -> s.size <= 255 -> uU m s (Sc m k s) := by
 intro k;induction k with
 | zero => intro s h; omega
 | succ k ih =>
  intro s h hs;unfold Sc;cases e : pV m s with
  | err x => exact .err e
  | ok l n => exact .ok e
  | go s' => obtain ⟨h1, h2⟩ := Gs e hs;exact .go e (ih s' ak h2)
theorem OL {m : List UInt8} {s : GS} {o o' : GO} (h : uU m s o) (h' : uU m s o') : o = o' := by
 induction h with
 | err e => exact (tU h' e).symm
 | ok e => exact (ED h' e).symm
 | go e _ ih => exact ih (Kx h' e)
def Jj (m : List UInt8) (a : Nat) : GO := Sc m (a * 300 + 300) ⟨a, 1, a, none, []⟩
theorem EE (m : List UInt8) (a : Nat) : uU m ⟨a, 1, a, none, []⟩ (Jj m a) := Mi m _ _ (by simp [vj]) ag
def EF (m : List UInt8) (at_ : Int) : Bool := decide (at_ < 0) || decide ((m.length : Int) < at_)
def goN : GO -> List (List UInt8)
 | .ok l _ => l
 | _ => []
def VB : GO -> Int
 | .ok _ n => n
 | _ => 0
def TP : GO -> Int
 | .ok _ _ => 0
 | .err e => e
 | .go _ => 0
def wV (m : List UInt8) (at_ : Int) : GO := if EF m at_ then .err 4 else Jj m at_.toNat
def zS (o : GO) (w : World) (e : Ending) (w' : World) : Prop :=
 ∃ v, e = .returned (.tuple #[v, .int .i64 (VB o), .int .i64 (TP o)]) /\ pL w' v (goN o) /\ Below w.heap.size w w' /\ (∀ k, v.ownBlock = some k -> w.heap.size <= k)
theorem Sd (m : List UInt8) (at_ : Int) (w : World) (h : EF m at_ = true) :
  Calls prog 249 #[.string (bs m), .int .i64 at_] w (zS (.err 4) w) := by
 have hb : at_ < 0 \/ (0 <= at_ /\ (m.length : Int) < at_) := by simp [EF] at h; omega
 clear h;have hmf : ∀ (fn : Fn) (first cap : Array Value) (w : World), (Instr.makeFunc fn first cap).run prog w = .ok (.func fn first cap) w := gY;rcases hb with h | ⟨h0, h⟩;all_goals
  go_enter_defers func249, ntmps249;go_wp2_with fail;simp [bodyPostD, Leaves, results, Tryz.results249, go_sem];exact ⟨_, rfl, pL.nil _, (((Below.refl _ _).alloc (Nat.le_refl _) _).alloc ag _).alloc al _, by simp [Value.ownBlock]⟩
set_option maxHeartbeats 1000000 in
theorem Uw (m : List UInt8) (a : Nat) (w : World) (hl : m.length <= 4000000) (ha : a <= m.length) (o : GO) (ho : uU m ⟨a, 1, a, none, []⟩ o) :
  Calls prog 249 #[.string (bs m), .int .i64 a] w (zS o w) := by
 have ha' : (a : Int) <= m.length := ak;have ha0 : (0 : Int) <= a := ak;have hmf : ∀ (fn : Fn) (first cap : Array Value) (w : World), (Instr.makeFunc fn first cap).run prog w = .ok (.func fn first cap) w := gY;go_enter_defers func249, ntmps249;go_wp2_with fail;refine (OK _ m a (w.heap.size + 1 + 1 + 1) o _ (nj.ph _ _ [.string (bs m), .int .i64 a, .int .i64 1, .slice none 0 0] _ ag) (Nat.le_refl _) hl ha ho).mono ?_;have n0 : ∀ o1 o2 o3, nj ((((w.alloc (.cells #[.slice none 0 0] 26)).alloc o1).alloc o2).alloc o3) w.heap.size 26 [.slice none 0 0] := fun o1 o2 o3 => (((nj.new w _ [.slice none 0 0]).alloc _).alloc _).alloc _
 have n1 : ∀ o2 o3, nj ((((w.alloc (.cells #[.slice none 0 0] 26)).alloc (.cells #[.int .i64 0] 3)).alloc o2).alloc o3) (w.heap.size + 1) 3 [.int .i64 0] := fun o2 o3 => ((nj.ph _ _ [.int .i64 0] _ ag).alloc _).alloc _
 have n2 : ∀ o3, nj ((((w.alloc (.cells #[.slice none 0 0] 26)).alloc (.cells #[.int .i64 0] 3)).alloc (.cells #[.int .i64 0] 142)).alloc o3) (w.heap.size + 1 + 1) 142 [.int .i64 0] := fun o3 => (nj.ph _ _ [.int .i64 0] _ ag).alloc _
 have hB0 : ∀ o1 o2 o3 o4, Below w.heap.size w ((((w.alloc o1).alloc o2).alloc o3).alloc o4) := fun o1 o2 o3 o4 => ((((Below.refl _ _).alloc (Nat.le_refl _) _).alloc ag _).alloc al _).alloc al _
 cases o with
 | go s => intro e w1 h; exact False.elim h
 | err x => rintro e w1 ⟨rfl, hB⟩;have k0 := (n0 _ _ _).below hB ak;have k1 := (n1 _ _).below hB ak;have k2 := (n2 _).below hB ak;have hB1 : Below w.heap.size w w1 := (hB0 _ _ _ _).trans (hB.mono ak);clear n0 n1 n2 hB0 hB;go_wp2_with fail;refine leaves_cons (f := 254) (args := #[.pointer (some ⟨w.heap.size, 0, none⟩), .pointer (some ⟨w.heap.size + 1, 0, none⟩), .pointer (some ⟨w.heap.size + 1 + 1, 0, none⟩)]) ag aL ?_;refine (Mh w.heap.size _ _ _ x _ k0 k1 k2).mono ?_;rintro e u' w2 ⟨rfl, rfl, c0, c1, c2, hB2⟩;have v0 := c0.nf 0 rfl;have v1 := c1.nf 0 rfl;have v2 := c2.nf 0 rfl;simp [Leaves, settle, results, Tryz.results249, go_sem, v0, v1, v2];exact ⟨_, rfl, pL.nil _, hB1.trans hB2, by simp [Value.ownBlock]⟩
 | ok l n =>
  rintro e w1 ⟨rfl, v, a', z', hR, hT, hB, hob⟩;obtain ⟨A, c, hv, -, -⟩ := hT.form;rw [hv] at hR hT hob;clear hv;have k0 := (n0 _ _ _).below hB ak;have k1 := (n1 _ _).below hB ak;have k2 := (n2 _).below hB ak;have hB1 : Below w.heap.size w w1 := (hB0 _ _ _ _).trans (hB.mono ak);have HOB := Hh hob;clear n0 n1 n2 hB0 hB hob;have u3 := hR.nf 3 rfl;have v0 := k0.nf 0 rfl;have v1 := k1.nf 0 rfl;have v2 := k2.nf 0 rfl;have f0 := k0.frozen 0;have f1 := k1.frozen 0;have f2 := k2.frozen 0;go_wp2_with fail;go_region;go_wp2_with fail;refine leaves_cons (f := 254) (args := #[.pointer (some ⟨w.heap.size, 0, none⟩), .pointer (some ⟨w.heap.size + 1, 0, none⟩), .pointer (some ⟨w.heap.size + 1 + 1, 0, none⟩)]) ag aL ?_;refine (Mg _ _ _ _).mono ?_;rintro e u' w2 ⟨rfl, rfl, rfl⟩;simp [Leaves, settle, results, Tryz.results249, go_sem, v0, v1, v2];have sF : ∀ {W : World} {b : Nat} (u : Value), b < w.heap.size + 1 + 1 + 1 -> pL W (.slice A l.length c) l -> pL (W.setCell ⟨b, 0, none⟩ u) (.slice A l.length c) l := fun {W} {b} u hb hT => ownsRow_setCell_other hT (fun e => by have := (HOB.out b e).1; omega) _
  refine ⟨_, rfl, sF _ ak (sF _ ak (sF _ ak (sF _ ak hT))), ?_, fun k hk => by have := (HOB.out k hk).1; omega⟩;exact ((((hB1.setCell ag _).setCell ag _).setCell ag _).setCell al _).drew
theorem KB (m : List UInt8) (at_ : Int) (w : World) (hl : m.length <= 4000000) :
  Calls prog 249 #[.string (bs m), .int .i64 at_] w (zS (wV m at_) w) := by
 unfold wV;cases h : EF m at_ with
 | true => rw [if_pos rfl]; exact Sd m at_ w h
 | false =>
  rw [if_neg ag];have hb : 0 <= at_ /\ at_ <= m.length := by simp [EF] at h; omega
  have := Uw m at_.toNat w hl ak _ (EE m at_.toNat);rwa [Int.toNat_of_nonneg hb.1] at this
end Go.Proofs.YthnbcmlnpdabhaaGreat
