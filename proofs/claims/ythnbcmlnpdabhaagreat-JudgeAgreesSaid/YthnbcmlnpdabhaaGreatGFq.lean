/-
  Layer 12 (packed): octets, New; tables as maps.
-/
import Derived.Test.YthnbcmlnpdabhaaGreatGBq
import Derived.Maps.OwnSet
import Derived.Deep.CutBlock
namespace Go.Proofs.YthnbcmlnpdabhaaGreat
open _root_.Go.Proofs.Tryz
open Go.RowKit
set_option maxRecDepth 100000
set_option linter.unusedVariables false
theorem Gm {w : World} {B : Nat} {v : Value} {q : List UInt8} (h : w.ownsRow B 5 1 v q.length (oM q)) : (convert 145 9 v).run prog w = .ok (.string (bs q)) w := by
 rcases h.2 with ⟨rfl, h0⟩ | ⟨g, cap, cur, rfl, _⟩
 ·
  have : q = [] := List.length_eq_zero_iff.1 h0;subst this;have : (convert 145 9 (.slice none 0 0)).run prog w = .ok (.string ⟨#[]⟩) w := by kernel_rfl
  exact this
 ·refine run_convert_bytes_back w 145 9 5 ⟨g, 0, none⟩ cap q underlying145 underlying5 underlying9 ?_;intro j hj;exact h.cells (g := g) rfl j _ (uB q j hj)
def Cy (n : List (List UInt8)) (k : Nat) : List Nat := (List.range k).map fun j => oC (n.take j)
theorem Ma (n : List (List UInt8)) (k : Nat) : Cy n (k + 1) = Cy n k ++ [oC (n.take k)] := by simp [Cy, List.range_succ]
def ints (l : List Nat) : List Value := l.map fun (x : Nat) => Value.int .i64 (x : Int)
theorem Oy (a b : List Nat) : ints (a ++ b) = ints a ++ ints b := by simp [ints]
theorem Kv : (prog.info? 3).map (fun i => (i.zero, i.size, i.bytes)) = some (some (.int .i64 0), 1, 8) := by kernel_rfl
theorem Mb (n : List (List UInt8)) (k : Nat) (h : k < n.length) : pU (n.take (k + 1)) = pU (n.take k) ++ [UInt8.ofNat n[k].length] ++ n[k] := by
 rw [List.take_succ_eq_append_getElem h, zE]; simp [pU, r7]
def RT (n : List (List UInt8)) (w : World) (e : Ending) (w' : World) : Prop :=
 ∃ v, e = .returned (.tuple #[.string (bs (pU n)), v]) /\ w'.ownsRow w.heap.size 3 1 v n.length (ints (Cy n n.length)) /\ Below w.heap.size w w'
set_option maxHeartbeats 2000000 in
theorem zO (A : Option Addr) (c : Nat) (n : List (List UInt8)) (w : World) (hA : vz w A n) (hg : rl n) (hs : oC n <= 254) :
  Calls prog 248 #[.slice A n.length c] w (RT n w) := by
 have hnl : n.length <= 254 := Nat.le_trans (wB n) hs;obtain ⟨i0, hi0, hz0, hz1, hz2⟩ := info_parts Kv;go_enter func248, ntmps248;go_wp2_with (at_make; go_must (refine wpList_make_own _ rfl (.const (.int .i64 0)) (.tmp 9) 70 rfl w.heap.size 3 i0 (.int .i64 0) 1 underlying70 hi0 hz0 hz1 .i64 .i64 _ n.length rfl rfl rfl (by rw [hz2]; omega) aA (Nat.le_refl _) ?_));intro w1 hown1 hgrow1;have hB1 : Below w.heap.size w w1 := (Below.refl _ w).grown hgrow1 (Nat.le_refl _) (by intro k hk; cases hk);clear hgrow1;go_wp2_with fail;go_loopw [4, 5, 13] (fun b bg i wr => ∃ k : Nat, k <= n.length /\ i = .int .i64 k /\ wr.ownsRow w.heap.size 5 1 b (pU (n.take k)).length (oM (pU (n.take k))) /\ wr.ownsRow w.heap.size 3 1 bg k (ints (Cy n k)) /\ Below w.heap.size w wr) (fun _ _ i _ => n.length - (intOf i).toNat)
 case atStart => exact ⟨0, Nat.zero_le _, rfl, World.ownsRow_nil _ _ _ _, hown1, hB1⟩
 case round =>
  clear hown1 hB1;clear w1;obtain ⟨k, hk, rfl, hb, hbg, hB⟩ := hrel;obtain ⟨Ab, cb, hv⟩ := sT hb;obtain ⟨Ag, cg, hv2⟩ := sT hbg;rw [pb] at hb hv;have hle := qL n k;by_cases hlt : k < n.length
  ·
   have hlt' : (k : Int) < n.length := ak;obtain ⟨ba, oa, rfl, hba, xa⟩ := hA ak;have c1 := (hB.cell hba).trans (xa k hlt);have XK := Hh (xa k hlt);have ET := Hh (Mb n k hlt);have hle2 := qL n (k + 1);rw [yt n k hlt] at hle2;have hl63 := (hg n[k] (List.getElem_mem hlt)).2;clear xa;rw [hv, hv2];rw [hv] at hb;rw [hv2] at hbg;clear hv hv2;go_wp2_with (at_builtin; go_must (refine yP _ rfl (.tmp 17) (.tmp 20) 70 rfl 3 (.int .i64 0) 1 8 underlying70 Kv rfl aj w.heap.size _ k _ rfl (World.ownsRow.alloc hbg _) aD ⟨wr.heap.size, 0, none⟩ 1 1 [.int .i64 (oC (n.take k))] rfl rfl (xB _ _ _ _ rfl) (wA rfl) aj aA ak ?_));intro g2 cap2 w2 hbg2 hgr2 hlt2;have hb2 := xJ (hb.alloc _) (hbg.alloc _) aj hgr2;have hB2 := ry (hB.alloc hB.size _) aD (hbg.alloc _) hgr2;have hbg2' : w2.ownsRow w.heap.size 3 1 (.slice (some ⟨g2, 0, none⟩) (k + 1) cap2) (k + 1) (ints (Cy n (k + 1))) := by rw [Ma, Oy]; exact hbg2
   clear hb hbg hbg2 hgr2 hB c1;go_wp2_with (at_builtin; go_must (refine yP _ rfl (.tmp 22) (.tmp 26) 145 rfl 5 (.int .u8 0) 1 1 underlying145 xH rfl aj w.heap.size _ (oC (n.take k)) _ rfl (World.ownsRow.alloc hb2 _) aE ⟨w2.heap.size, 0, none⟩ 1 1 [.int .u8 (n[k].length : Int)] rfl rfl (xB _ _ _ _ rfl) (wA rfl) aj aA ak ?_));intro g3 cap3 w3 hb3 hgr3 hlt3;have hbg3 := xJ (hbg2'.alloc _) (hb2.alloc _) aj hgr3;have hB3 := ry (hB2.alloc hB2.size _) aE (hb2.alloc _) hgr3;obtain ⟨q, hq⟩ : ∃ q, q = pU (n.take k) ++ [UInt8.ofNat n[k].length] := eE;have hql : q.length = oC (n.take k) + 1 := by rw [hq, List.length_append, pb]; rfl
   have hb3' : w3.ownsRow w.heap.size 5 1 (.slice (some ⟨g3, 0, none⟩) (oC (n.take k) + 1) cap3) q.length (oM q) := by
    rw [hql, hq, uA];have : oM [UInt8.ofNat n[k].length] = [.int .u8 (n[k].length : Int)] := by simp [oM]; omega
    rw [this]; exact hb3
   have HQ := Hh hq;have hql2 : q.length + n[k].length <= 1000 := ak;have HQL := Hh hql;clear hb2 hbg2' hB2 hgr3 hb3 hq hql;go_wp2_with (at_builtin; go_must (refine Gj _ rfl (.tmp 28) (.tmp 29) rfl w.heap.size _ q n[k] rfl hb3' hB3.size rfl ak ?_));intro A4 c4 w4 hb4 hgr4;have hbg4 := xJ hbg3 hb3' aj hgr4;have hB4 := ry hB3 hB3.size hb3' hgr4;have hE : q ++ n[k] = pU (n.take (k + 1)) := by rw [ET.out, HQ.out]
   rw [hE] at hb4;have HE := Hh (show (pU (n.take (k + 1))).length = q.length + n[k].length by rw [<- hE, List.length_append]);clear hE hb3' hbg3 hB3 hgr4;go_wp2_with fail;go_roundw
   case rel => exact ⟨k + 1, ak, eh, by rw [HE.out]; exact hb4, hbg4, hB4⟩
   case measure => simp [intOf]; omega
  ·have hlt' : ¬ (k : Int) < n.length := ak;obtain rfl : k = n.length := ak;have ht : n.take n.length = n := List.take_of_length_le (Nat.le_refl _);rw [ht] at hb hv;rw [hv, hv2];rw [hv] at hb;rw [hv2] at hbg;rw [<- pb] at hb;have hcv := Gm hb;rw [pb] at hcv;clear hv hv2 ht hb;go_wp2_with fail;go_ret2;exact ⟨_, rfl, hbg, hB⟩
open Go.RowKit Go.Maps
theorem Gn : Keyed prog 9 := string_keyed underlying9
theorem RU (w : World) : (zeroValue 3).run prog w = .ok (.int .i64 0) w := by kernel_rfl
def sg (w : World) (b n : Nat) (f : List UInt8 -> Option Nat) : Prop :=
 ∃ D : DataW Unit, w.ownsMap prog 9 (plainElem prog 3) b n D /\ ∀ k, match f k with
  | none => Maps.has D (.string k) = false
  | some x => Maps.has D (.string k) = true /\ ∀ z, D.atKey (.string k) z = .lit (.int .i64 (x : Int))
theorem Oz (k : List UInt8) (hk : k.length <= maxLen) : keyOf prog 9 (.string (bs k)) = some (Lit.string k) := by
 have := WideMaps.keyOf_string_mk underlying9 (s := bs k) (by rw [qo]; exact hk);rwa [Rw] at this
theorem sg.made (w : World) : sg (w.alloc (.map #[] 0)) w.heap.size 0 (fun _ => none) := ⟨.map [], World.ownsMap_made _ _ _ _, fun k => rfl⟩
theorem sg.look {w : World} {b n : Nat} {f : List UInt8 -> Option Nat} (h : sg w b n f) (k : List UInt8) (hk : k.length <= maxLen) :
  (Instr.lookup 313 (.map (some b)) (.string (bs k)) true).run prog w = .ok (.tuple #[.int .i64 ((f k).getD 0 : Nat), .bool (f k).isSome]) w := by
 obtain ⟨D, ho, hf⟩ := h;obtain ⟨v, ps, hrun, hv⟩ := ho.look_ok Gn underlying313 (RU w) (plainElem_int underlying3 (a := 0) aj) (Oz k hk);obtain ⟨a, rfl, ha, _⟩ := plainElem_int_inv underlying3 hv;have hfk := hf k;rw [hrun];cases hk : f k with
 | none => rw [hk] at hfk;simp only at hfk;rw [Maps.atKey_of_not_has hfk] at ha;have : a = 0 := iP;subst this;rw [hfk]; rfl
 | some x => rw [hk] at hfk;simp only at hfk;rw [hfk.2] at ha;have : a = (x : Int) := iP;subst this;rw [hfk.1]; rfl
theorem sg.store {w : World} {b n : Nat} {f : List UInt8 -> Option Nat} (h : sg w b n f) (k : List UInt8) (hk : k.length <= maxLen) (x : Nat) (hx : x < 16384) (hn : n < maxLen) :
  ∃ w', (Instr.mapUpdate 313 (.map (some b)) (.string (bs k)) (.int .i64 (x : Int))).run prog w = .ok () w' /\ sg w' b (n + 1) (fun j => if j = k then some x else f j) /\ w.grownBy w' (some b) := by
 obtain ⟨D, ho, hf⟩ := h;obtain ⟨w', hrun, ho', hg⟩ := ho.update Gn underlying313 hn (Oz k hk) (plainElem_int underlying3 (a := (x : Int)) (WalkArith.wf_i64 ak));refine ⟨w', hrun, ⟨_, ho', fun j => ?_⟩, hg⟩;by_cases hj : j = k
 ·subst hj;simp only [if_true];exact ⟨Maps.has_put_same ho.isMap (show WideAt.IsKeyLit (Lit.string j) from trivial) _, fun z => Maps.atKey_put_same ho.isMap (show WideAt.IsKeyLit (Lit.string j) from trivial) _ _⟩
 ·
  simp only [if_neg hj];have hne : Lit.string j ≠ Lit.string k := fun e => hj (by injection e)
  have := hf j;cases hfj : f j with
  | none => rw [hfj] at this;simp only at this ⊢;rw [Maps.has_put_other hne]; exact this
  | some y => rw [hfj] at this;simp only at this ⊢;exact ⟨by rw [Maps.has_put_other hne]; exact this.1, fun z => by rw [Maps.atKey_put_other hne]; exact this.2 z⟩
theorem sg.kept {w w' : World} {b n : Nat} {f : List UInt8 -> Option Nat} {row : Option Nat} (h : sg w b n f) (hg : w.grownBy w' row) (hne : some b ≠ row) : sg w' b n f := by
 obtain ⟨D, ho, hf⟩ := h;exact ⟨D, ho.kept hg hne, hf⟩
theorem sg.lt {w : World} {b n : Nat} {f : List UInt8 -> Option Nat} (h : sg w b n f) : b < w.heap.size := by
 obtain ⟨D, ho, hf⟩ := h;exact ho.lt
theorem sg.Uq {w : World} {b n g : Nat} {f : List UInt8 -> Option Nat} {t : TypeId} {cs : List Value} (h : sg w b n f) (hb : nj w g t cs) : b ≠ g := by
 rintro rfl;obtain ⟨D, ⟨es, cl, hm, _⟩, _⟩ := h;unfold nj at hb;rw [hb] at hm; cases hm
def tD (w : World) (g b : Nat) (T : List (List (List UInt8) × Nat)) : Prop :=
 nj w g 315 [.map (some b)] /\ (∃ f, sg w b T.length f /\ ∀ n, rl n -> f (pU n) = look T n) /\ ∀ r ∈ T, r.2 < 16384
def Ur (w : World) (e : Ending) (w' : World) : Prop := ∃ g b, e = .returned (.pointer (some ⟨g, 0, none⟩)) /\ tD w' g b [] /\ Below w.heap.size w w' /\ w.heap.size <= g /\ w.heap.size <= b
theorem OA (w : World) : Calls prog 167 #[] w (Ur w) := by
 have hmm := @run_makeMap prog;go_enter func167, ntmps167;go_wp2;go_ret;refine ⟨_, w.heap.size, rfl, ⟨nj.ph _ _ [.map (some w.heap.size)] _ ag, ⟨fun _ => none, (sg.made w).kept (World.grownBy_alloc _ _ none) ag, fun n _ => rfl⟩, ag⟩, ((Below.refl _ _).alloc (Nat.le_refl _) _).alloc ag _, ag, Nat.le_refl _⟩
def rI (at_ : Int) (p : Nat) (n : List (List UInt8)) (k : Nat) : List (List (List UInt8) × Nat) :=
 (List.range k).flatMap fun j => if low at_ (p + oC (n.take j)) then [(n.drop j, (at_ + (p + oC (n.take j) : Nat)).toNat)] else []
theorem sG (at_ : Int) (p : Nat) (n : List (List UInt8)) (k : Nat) : rI at_ p n (k + 1) = rI at_ p n k ++ (if low at_ (p + oC (n.take k)) then [(n.drop k, (at_ + (p + oC (n.take k) : Nat)).toNat)] else []) := by
 simp [rI, List.range_succ, List.flatMap_append]
theorem Je (at_ : Int) (p : Nat) (n : List (List UInt8)) (k : Nat) (h : at_ < 0 \/ 16384 <= at_) : rI at_ p n k = [] := by
 have hl : ∀ q, low at_ q = false := by
  intro q;cases hq : low at_ q with
  | false => rfl
  | true => have := (xE at_ q).1 hq; omega
 induction k with
 | zero => rfl
 | succ k ih => rw [sG, ih, hl]; rfl
theorem Ez (at_ : Int) (p : Nat) (n : List (List UInt8)) (k : Nat) : (rI at_ p n k).length <= k := by
 induction k with
 | zero => exact Nat.le_refl _
 | succ k ih =>
  rw [sG, List.length_append];split
  ·simp; omega
  ·simp; omega
theorem Mc {at_ : Int} {p : Nat} {n : List (List UInt8)} {k : Nat} {r : List (List UInt8) × Nat} (h : r ∈ rI at_ p n k) : ∃ j, j < k /\ r.1 = n.drop j /\ r.2 < 16384 := by
 induction k with
 | zero => cases h
 | succ k ih =>
  rw [sG] at h;rcases List.mem_append.1 h with h | h
  ·obtain ⟨j, hj, h1, h2⟩ := ih h;exact ⟨j, ak, h1, h2⟩
  ·
   by_cases hc : low at_ (p + oC (n.take k)) = true
   ·rw [if_pos hc, List.mem_singleton] at h;have hl := (xE _ _).1 hc;refine ⟨k, ak, by rw [h], ?_⟩;rw [h];simp only;omega
   ·rw [if_neg hc] at h; cases h
theorem Dj (T : List (List (List UInt8) × Nat)) (at_ : Int) (pre : List UInt8) (n : List (List UInt8)) : ∀ k, k <= n.length -> (∀ j, j < k -> look T (n.drop j) = none) ->
  wY T at_ pre n = ((wY T at_ (pre ++ pU (n.take k)) (n.drop k)).1, rI at_ pre.length n k ++ (wY T at_ (pre ++ pU (n.take k)) (n.drop k)).2) := by
 intro k;induction k with
 | zero => intro _ _; simp [rI]
 | succ k ih =>
  intro hk h;rw [ih ak (fun j hj => h j ak)];have hd : n.drop k = n[k] :: n.drop (k + 1) := List.drop_eq_getElem_cons ak;have hl := h k ak;rw [hd] at hl;rw [hd, zG hl];have e1 : pre ++ pU (n.take k) ++ r7 n[k] = pre ++ pU (n.take (k + 1)) := by rw [List.take_succ_eq_append_getElem ak, zE, List.append_assoc];simp [pU]
  have e2 : (pre ++ pU (n.take k)).length = pre.length + oC (n.take k) := by rw [List.length_append, pb]
  rw [e1, e2, sG, hd, List.append_assoc]
theorem RW (T : List (List (List UInt8) × Nat)) (at_ : Int) (n : List (List UInt8)) (k q : Nat) (hk : k < n.length) (h : ∀ j, j < k -> look T (n.drop j) = none) (hq : look T (n.drop k) = some q) :
  wY T at_ [] n = (pU (n.take k) ++ ny 2 (49152 + q), rI at_ 0 n k) := by
 rw [Dj T at_ [] n k ak h];have hd : n.drop k = n[k] :: n.drop (k + 1) := List.drop_eq_getElem_cons hk;rw [hd] at hq ⊢;rw [xF hq];simp
theorem OD (T : List (List (List UInt8) × Nat)) (at_ : Int) (n : List (List UInt8)) (h : ∀ j, j < n.length -> look T (n.drop j) = none) :
  wY T at_ [] n = (pU n ++ [0], rI at_ 0 n n.length) := by
 rw [Dj T at_ [] n n.length (Nat.le_refl _) h];simp [wY]
theorem Md {T : List (List (List UInt8) × Nat)} {n : List (List UInt8)} {x : Nat} (h : look T n = none) (m : List (List UInt8)) : look (T ++ [(n, x)]) m = if m = n then some x else look T m := by
 by_cases hm : m = n
 ·subst hm;rw [if_pos rfl];unfold look at h ⊢;rw [List.find?_append];have : T.find? (fun r => r.1 == m) = none := ah;rw [this]; simp
 ·rw [if_neg hm, wZ];intro r hr;rw [List.mem_singleton] at hr;subst hr;exact fun e => hm e.symm
theorem Me {T : List (List (List UInt8) × Nat)} {at_ : Int} {n : List (List UInt8)} {k : Nat} (hk : k < n.length) (h : look T (n.drop k) = none) : look (T ++ rI at_ 0 n k) (n.drop k) = none := by
 rw [wZ]
 ·exact h
 ·intro r hr e;obtain ⟨j, hj, h1, _⟩ := Mc hr;have := congrArg List.length (h1.symm.trans e);simp at this;omega
theorem Dk (n : List (List UInt8)) (k : Nat) : (pU n).drop (oC (n.take k)) = pU (n.drop k) := by
 have e : pU n = pU (n.take k) ++ pU (n.drop k) := iK;rw [e, <- pb, List.drop_left]
theorem Jf (n : List (List UInt8)) (k : Nat) : (pU n).take (oC (n.take k)) = pU (n.take k) := by
 have e : pU n = pU (n.take k) ++ pU (n.drop k) := iK;rw [e, <- pb, List.take_left]
def Cz (T : List (List (List UInt8) × Nat)) (at_ : Int) (n : List (List UInt8)) : List UInt8 := if nH n = 0 then (wY T at_ [] n).1 else []
def EB (T : List (List (List UInt8) × Nat)) (at_ : Int) (n : List (List UInt8)) : List (List (List UInt8) × Nat) := if nH n = 0 then T ++ (wY T at_ [] n).2 else T
theorem Kw (p : Option Addr) (A : Option Addr) (c : Nat) (n : List (List UInt8)) (at_ : Int) (w : World) (hA : vz w A n) (hm : n.length <= 281474976710656) (hc : nH n ≠ 0) :
  Calls prog 236 #[.pointer p, .slice A n.length c, .int .i64 at_] w (rN (.tuple #[.string (bs []), .int .i64 (nH n)]) w) := by
 have C := rP A c n w hA hm;generalize nH n = e at *;have hc' : (e != 0) = true := gN;go_enter func236, ntmps236;go_wp2_with fail;refine C.mono ?_;rintro _ w1 ⟨rfl, rfl⟩;go_wp2_with fail;go_ret2;exact rN.mk rfl rfl
def Gp (n : List (List UInt8)) : List UInt8 := pU n ++ [0]
theorem RX (A : Option Addr) (c : Nat) (n : List (List UInt8)) (at_ : Int) (w : World) (hA : vz w A n) (hm : n.length <= 281474976710656) (hc : nH n = 0) :
  Calls prog 236 #[.pointer none, .slice A n.length c, .int .i64 at_] w (nM (.tuple #[.string (bs (Gp n)), .int .i64 0]) w) := by
 have C := rP A c n w hA hm;obtain ⟨hg, hs⟩ := qB hc;have hs' : oC n <= 254 := ak;have O := zO A c n w hA hg hs';rw [hc] at C;have hl : (pU n).length <= 254 := jC;clear hc hg;unfold Gp;go_enter func236, ntmps236;go_wp2_with fail;refine C.mono ?_;rintro _ w1 ⟨rfl, rfl⟩;go_wp2_with fail;refine O.mono ?_;rintro _ w1 ⟨v, rfl, ho, hB⟩;generalize pU n = q at *;go_wp2_with fail;go_ret2;exact nM.mk rfl hB
def OE (g b : Nat) (s : List UInt8) (T : List (List (List UInt8) × Nat)) (w : World) (e : Ending) (w' : World) : Prop :=
 e = .returned (.tuple #[.string (bs s), .int .i64 0]) /\ tD w' g b T /\ w.grownBy w' (some b)
def OG (g b : Nat) (T : List (List (List UInt8) × Nat)) (n : List (List UInt8)) (at_ : Int) (w : World) (bg out : Value) (wx : World) : Prop :=
 ∃ (k c : Nat) (A : Option Addr), k <= n.length /\ bg = .slice A k c /\ out = .string (bs (wY T at_ [] n).1) /\ (wY T at_ [] n).2 = rI at_ 0 n k /\ (∀ j, j < k -> look T (n.drop j) = none) /\
  (∀ i, i < k -> ∃ B, A = some ⟨B, 0, none⟩ /\ w.heap.size <= B /\ B < wx.heap.size /\ wx.cell? ⟨B, i, none⟩ = some (.int .i64 (oC (n.take i)))) /\ tD wx g b T /\ Below w.heap.size w wx
theorem tD.below {w w' : World} {g b : Nat} {T : List (List (List UInt8) × Nat)} (h : tD w g b T) (hb : Below w.heap.size w w') : tD w' g b T := by
 obtain ⟨h1, ⟨f, h2, h3⟩, h4⟩ := h;exact ⟨h1.below hb h1.lt, ⟨f, h2.kept (nG hb none) ag, h3⟩, h4⟩
theorem Dm {g b : Nat} {out s : List UInt8} {T T' : List (List (List UInt8) × Nat)} {w w' : World} (ho : out = s) (hT : T = T') (h : tD w' g b T) (hg : w.grownBy w' (some b)) : OE g b s T' w (.returned (.tuple #[.string (bs out), .int .i64 0])) w' := by
 subst ho hT; exact ⟨rfl, h, hg⟩
theorem Dn {g b k c1 : Nat} {T : List (List (List UInt8) × Nat)} {n : List (List UInt8)} {at_ : Int} {w w1 wx : World} {A1 : Option Addr} {s : List UInt8} (hk : k <= n.length) (hp : wY T at_ [] n = (s, rI at_ 0 n k))
  (HN : Hid (∀ j, j < k -> look T (n.drop j) = none)) (ho : w1.ownsRow w.heap.size 3 1 (.slice A1 n.length c1) n.length (ints (Cy n n.length))) (hT : tD w1 g b T) (hB : Below w.heap.size w w1) (hx : Below w1.heap.size w1 wx) :
  OG g b T n at_ w (.slice A1 k c1) (.string (bs s)) wx := by
 refine ⟨k, c1, A1, hk, rfl, by rw [hp], by rw [hp], HN.out, ?_, hT.below hx, nc hB hB.size hx⟩;intro i hi;rcases ho.2 with ⟨_, h0⟩ | ⟨B, cap, cur, hv, hBb, hh, _⟩
 ·omega
 ·injection hv with h1 h2 h3;subst h1 h3;have hlt : B < w1.heap.size := (ho.lt B rfl).2;refine ⟨B, rfl, hBb, Nat.lt_of_lt_of_le hlt hx.size, (hx.cell hlt).trans ?_⟩;rw [ho.cellAt i ak];simp [ints, Cy, show i < n.length by omega]
theorem RY {wr w' : World} {g b x : Nat} {T : List (List (List UInt8) × Nat)} {n : List (List UInt8)} {f : List UInt8 -> Option Nat} {key : List UInt8} (hTb : nj wr g 315 [.map (some b)]) (hne : b ≠ g)
  (hM : sg w' b (T.length + 1) (fun k => if k = key then some x else f k)) (hf : ∀ m, rl m -> f (pU m) = look T m) (hlow : ∀ r ∈ T, r.2 < 16384) (hkey : key = pU n) (hn : rl n) (hl : look T n = none) (hx : x < 16384) (hg : wr.drew.grownBy w' (some b)) :
  tD w' g b (T ++ [(n, x)]) := by
 refine ⟨(nj.drew hTb).grown hg (fun e => hne (by injection e with e; exact e.symm)), ⟨_, by simpa using hM, fun m hm => ?_⟩, ?_⟩
 ·
  rw [Md hl m];by_cases e : m = n
  ·subst e; rw [if_pos rfl, if_pos hkey.symm]
  ·rw [if_neg e, if_neg (fun h => e (Og m n hm hn (h.trans hkey)))];exact hf m hm
 ·
  intro r hr;rcases List.mem_append.1 hr with h | h
  ·exact hlow r h
  ·rw [List.mem_singleton] at h; rw [h]; exact hx
set_option maxHeartbeats 4000000 in
theorem Sa (g b : Nat) (T : List (List (List UInt8) × Nat)) (A : Option Addr) (c : Nat) (n : List (List UInt8)) (at_ : Int) (w : World) (hT : tD w g b T) (hA : vz w A n) (hm : n.length <= 281474976710656) (hc : nH n = 0) (hTl : T.length <= 1000000) :
  Calls prog 236 #[.pointer (some ⟨g, 0, none⟩), .slice A n.length c, .int .i64 at_] w (OE g b (wY T at_ [] n).1 (T ++ (wY T at_ [] n).2) w) := by
 have C := rP A c n w hA hm;obtain ⟨hg, hs⟩ := qB hc;have hs' : oC n <= 254 := ak;have O := zO A c n w hA hg hs';rw [hc] at C;have hl : (pU n).length <= 254 := jC;have hnl : n.length <= 254 := Nat.le_trans (wB n) hs';have GG := Hh (show rl n from hg);clear hc hg;go_enter func236, ntmps236;go_wp2_with fail;refine C.mono ?_;rintro _ w1 ⟨rfl, rfl⟩;go_wp2_with fail;refine O.mono ?_;rintro _ w1 ⟨v, rfl, ho, hB⟩;have hT1 := hT.below hB;obtain ⟨A1, c1, hv⟩ := sT ho;rw [hv] at ho ⊢;clear hv C O;obtain ⟨q, hq⟩ : ∃ q, q = pU n := eE;rw [<- hq] at hl ⊢;have HQ := Hh hq;clear hq;go_upto_block 0 with fail;go_cut [10, 11] (fun bg out wx => OG g b T n at_ w bg out wx)
 case first =>
  obtain ⟨hTb, ⟨f, hM, hf⟩, hlow⟩ := hT1;have tc := hTb.nf 0 rfl;have HF := Hh hf;have HLOW := Hh hlow;clear hf hlow;go_wp2_with fail;go_loopg [10, 11, 36] n.length (fun kk bg out i wr => ∃ k : Nat, k <= n.length /\ kk = n.length - k /\ i = .int .i64 k /\ bg = .slice A1 n.length c1 /\ out = .string (bs (q ++ [0])) /\ Hid (∀ j, j < k -> look T (n.drop j) = none) /\ ∃ d, wr = w1.drewN d)
  case atStart => exact ⟨0, Nat.zero_le _, rfl, rfl, rfl, rfl, Hh (fun j hj => by omega), 0, rfl⟩
  case round =>
   obtain ⟨k, hk, hgk, rfl, rfl, rfl, HN, d, rfl⟩ := hrel;have HGK := Hh hgk;clear hgk;by_cases hlt : k < n.length
   ·
    have hlt' : (k : Int) < n.length := ak;obtain ⟨B, hA1⟩ : ∃ B, A1 = some ⟨B, 0, none⟩ := by
     rcases ho.2 with ⟨_, h0⟩ | ⟨B, cap, cur, hv, _⟩
     ·omega
     ·exact ⟨B, by injection hv⟩
    subst hA1;have hcell := ho.cellAt k ak;have hbk : (ints (Cy n n.length))[k]? = some (.int .i64 (oC (n.take k) : Int)) := by simp [ints, Cy, hlt]
    rw [hbk] at hcell;have hlk1 := qL n k;have hd1 : q.drop (oC (n.take k)) = pU (n.drop k) := by rw [HQ.out, Dk]
    have HD1 := Hh hd1;clear hd1 hbk;obtain ⟨p, hp⟩ : ∃ p, p = oC (n.take k) := eE;rw [<- hp] at hcell HD1 hlk1;have HP := Hh hp;have hpq : (p : Int) <= q.length := by
     have e : q.length = oC n := by rw [HQ.out, pb]
     omega
    clear hp;have hlook : ∀ d', (Instr.lookup 313 (.map (some b)) (.string (bs (q.drop p))) true).run prog (w1.drewN d') = .ok (.tuple #[.int .i64 ((f (q.drop p)).getD 0 : Nat), .bool (f (q.drop p)).isSome]) (w1.drewN d') := fun d' =>
     (show sg (w1.drewN d') b T.length f from hM).look (q.drop p) aF
    have hfk : f (q.drop p) = look T (n.drop k) := by rw [HD1.out]; exact HF.out _ (GG.out.drop k)
    cases hlo : look T (n.drop k) with
    | none =>
     rw [hlo] at hfk;rw [hfk] at hlook;simp only [Option.getD_none, Option.isSome_none] at hlook;have HLO := Hh hlo;clear hlo hfk;go_wp2_with fail;go_quiet (fail);go_wp2_with fail;go_roundg (n.length - (k + 1))
     case measure => have := HGK.out; omega
     case rel => exact ⟨k + 1, ak, rfl, eh, rfl, rfl, Hh (fun j hj => by
      by_cases e : j = k
      ·subst e; exact HLO.out
      ·
       exact HN.out j ak), _, rfl⟩
    | some q0 =>
     rw [hlo] at hfk;rw [hfk] at hlook;simp only [Option.getD_some, Option.isSome_some] at hlook;have hq0 : q0 < 16384 := HLOW.out _ (Gg hlo);have hhit := RW T at_ n k q0 hlt HN.out hlo;have HH := Hh hhit;have htk : q.take p = pU (n.take k) := by rw [HQ.out, HP.out, Jf]
     have HTK := Hh htk;clear hlo hfk hhit htk;have hq0' : (q0 : Int) < 16384 := ak;have hcap : n.length <= c1 := by
      rcases ho.2 with ⟨hv, _⟩ | ⟨_, _, _, hv, _, _, hh, _⟩
      ·cases hv
      ·injection hv with _ _ h3; omega
     go_wp2_with fail;go_quiet (fail);go_wp2_with fail;have hw1 : IntKind.i64.wrap (49152 + (q0 : Int)) = 49152 + (q0 : Int) := iI;obtain ⟨W, hW⟩ : ∃ W, W = (w1.drewN d).drewN nq := eE;rw [<- hW];have hBW : Below w1.heap.size w1 W := hW ▸ below_drewN (below_drewN (Below.refl _ _) _) _;clear hW;have hpl := np 2 (49152 + (q0 : Int));have hadd : ∀ W : World, (Op.stringOp .add (bs (q.take p)) (bs (ny 2 (49152 + (q0 : Int))))).run prog W = .ok (.string (bs (q.take p ++ ny 2 (49152 + (q0 : Int))))) W := fun W => by rw [run_string_add_sum W _ _ (by simp only [qo, List.length_take]; omega), IY]
     clear hpl;go_region_held3 (fun w' => Below W.heap.size W w') (first | exact (Below.refl _ _).drew | exact LX aG b3)
      ((go_at_call 117; refine (pg _ _ _).mono ?_; rw [show hw 2 = 2 from rfl]; rintro e w3 ⟨rfl, b3⟩))
     clear hadd;go_wp2_with fail;go_meet
     case rel => exact Dn hk (by rw [HTK.out]; exact HH.out) HN ho ⟨hTb, ⟨f, hM, HF.out⟩, HLOW.out⟩ hB (nc hBW hBW.size aG)
   ·
    obtain rfl : k = n.length := ak;have hmiss := Hh (OD T at_ n HN.out);have hlt' : ¬ (n.length : Int) < n.length := ak;go_wp2_with fail;go_meet
    case rel => exact Dn (Nat.le_refl _) (by rw [HQ.out]; exact hmiss.out) HN ho ⟨hTb, ⟨f, hM, HF.out⟩, HLOW.out⟩ hB (below_drewN (Below.refl _ _) _)
 case rest =>
  have hbw : b < w.heap.size := hT.2.1.elim fun f h => h.1.lt
  obtain ⟨k, c2, A2, hk2, rfl, rfl, hrows, hnone, hcells, hT2, hB2⟩ := hcut;have HR := Hh hrows;have HN := Hh hnone;have HCE := Hh hcells;clear hrows hnone hcells ho hT1 hB hT;obtain ⟨out, ho⟩ : ∃ out, out = (wY T at_ [] n).1 := eE;rw [<- ho];have HO := Hh ho;clear ho;by_cases hat : at_ < 0 \/ 16384 <= at_
  ·
   have hrn := Je at_ 0 n k hat;have HRN := Hh hrn;clear hrn;have hB3 := nG hB2 (some b);rcases hat with h | h
   ·have d1 : decide (at_ < 0) = true := decide_eq_true h;exact mY
   ·have h0 : 0 <= at_ := ak;have d1 : decide (at_ < 0) = false := gv;exact mY
  ·
   have h0 : 0 <= at_ := ak;have h1 : at_ < 16384 := ak;have d1 : decide (at_ < 0) = false := gv;have d2 : decide (16384 <= at_) = false := gv;have tc := hT2.1.nf 0 rfl;have hem : ∀ W : World, (binOp .eql 313 (.map (some b)) (.map none)).run prog W = .ok (.bool false) W := fun W => by rw [run_eql_map_nil W 313 _ _ _ underlying313]; rfl
   clear hat;go_wp2_with fail;go_loopg [82] k (fun kk i wr => ∃ j : Nat, j <= k /\ kk = k - j /\ i = .int .i64 j /\ tD wr g b (T ++ rI at_ 0 n j) /\ wc.grownBy wr (some b))
   case atStart => exact ⟨0, Nat.zero_le _, rfl, rfl, by simpa [rI] using hT2, World.grownBy.refl _ _⟩
   case round =>
    obtain ⟨j, hj, hgk, rfl, hTj, hgr⟩ := hrel;have HGK := Hh hgk;clear hgk tc hT2;by_cases hlt : j < k
    ·
     have hlt' : (j : Int) < k := ak;obtain ⟨B, hA2, hBw, hBx, hcell0⟩ := HCE.out j hlt;subst hA2;have hcell := (uT hgr ⟨B, j, none⟩ hBx al).trans hcell0;have hlk1 := qL n j;obtain ⟨p, hp⟩ : ∃ p, p = oC (n.take j) := eE;rw [<- hp] at hcell hlk1;have HP := Hh hp;have hqe : q.length = oC n := by rw [HQ.out, pb]
     have hpq : (p : Int) <= q.length := ak;have hd1 : q.drop p = pU (n.drop j) := by rw [HQ.out, HP.out, Dk]
     have HD1 := Hh hd1;have HL := Hh (Me (at_ := at_) (show j < n.length by omega) (HN.out j hlt));clear hp hqe hd1 hcell0;obtain ⟨hTb, ⟨f, hM, hf⟩, hlow⟩ := hTj;have HF := Hh hf;have HLOW := Hh hlow;have tc := hTb.nf 0 rfl;clear hf hlow;by_cases hlo : at_ + p < 16384
     ·
      have hx : ((at_.toNat + p : Nat) : Int) = at_ + p := ak;obtain ⟨w', hrun, hM', hg'⟩ := (show sg wr.drew b _ f from hM).store (q.drop p) aF (at_.toNat + p) ak (by have := Ez at_ 0 n j; simp only [maxLen, List.length_append]; omega);rw [hx] at hrun;have hw1 : IntKind.i64.wrap (at_ + (p : Int)) = at_ + (p : Int) := iI;have HX := Hh hx;clear hx;have hRS : rI at_ 0 n (j + 1) = rI at_ 0 n j ++ [(n.drop j, at_.toNat + p)] := by have e : (at_ + ((0 + p : Nat) : Int)).toNat = at_.toNat + p := ak;rw [sG, <- HP.out, e, if_pos ((xE _ _).2 ⟨h0, h1, by simpa using hlo⟩)]
      have hTN : tD w' g b (T ++ rI at_ 0 n (j + 1)) := by rw [hRS, <- List.append_assoc];exact RY hTb (hM.Uq hTb) hM' HF.out HLOW.out HD1.out (GG.out.drop j) HL.out ak hg'
      have hgr2 : wc.grownBy w' (some b) := ns (qK hgr) hg' (.inl rfl);clear hRS hM' hg';go_wp2_with fail;go_region;go_wp2_with fail;go_roundg (k - (j + 1))
      case measure => have := HGK.out; omega
      case rel => exact ⟨j + 1, ak, rfl, eh, hTN, hgr2⟩
     ·
      have hlo' : 16384 <= at_ + p := ak;have hRS : rI at_ 0 n (j + 1) = rI at_ 0 n j := by rw [sG, <- HP.out, if_neg (by rw [xE]; simp; omega), List.append_nil]
      have hTN : tD wr g b (T ++ rI at_ 0 n (j + 1)) := by rw [hRS];exact ⟨hTb, ⟨f, hM, HF.out⟩, HLOW.out⟩
      clear hRS;go_wp2_with fail;go_roundg (k - (j + 1))
      case measure => have := HGK.out; omega
      case rel => exact ⟨j + 1, ak, rfl, eh, hTN, hgr⟩
    ·obtain rfl : j = k := ak;have hlt' : ¬ (j : Int) < j := ak;go_wp2_with fail;go_ret2;exact Dm HO.out (by rw [HR.out]) hTj (ns (nG hB2 (some b)) hgr (.inl rfl))
def Vz (lo : Nat) (w : World) (v : Value) (l : List (List UInt8)) : Prop :=
 ∃ A c, v = .slice A l.length c /\ (0 < l.length -> ∃ b off, A = some ⟨b, off, none⟩ /\ b < lo /\ ∀ i (hi : i < l.length), w.cell? ⟨b, off + i, none⟩ = some (.string (bs l[i])))
end Go.Proofs.YthnbcmlnpdabhaaGreat
