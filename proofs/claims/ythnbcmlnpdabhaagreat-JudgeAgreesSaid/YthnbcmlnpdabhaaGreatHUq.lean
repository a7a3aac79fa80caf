/-
  Messages: as data, as cells, as octets.
-/
import Derived.Test.YthnbcmlnpdabhaaGreatHSq
import Derived.Test.YthnbcmlnpdabhaaGreatHTq
namespace Go.Proofs.YthnbcmlnpdabhaaGreat
open _root_.Go.Proofs.Tryz
open Go.RowKit
set_option maxRecDepth 100000
set_option linter.unusedVariables false
set_option linter.unusedSimpArgs false
structure Qn where
 name : List (List UInt8)
 ty : Int
 cl : Int
deriving DecidableEq
structure oh where
 hd : Hd
 qs : List Qn
 an : List RR
 au : List RR
 ex : List RR
deriving DecidableEq
def oh.y7 (m : oh) : List RR := m.an ++ m.au ++ m.ex
def qO : List Int -> Int
 | [] => 0
 | e :: l => if e ≠ 0 then e else qO l
theorem Sj {l : List Int} (h : ∀ j (hj : j < l.length), l[j] = 0) : qO l = 0 := by
 induction l with
 | nil => rfl
 | cons e l ih => have h0 : e = 0 := h 0 ag;unfold qO;exact mF
theorem Ph {l : List Int} {k : Nat} (hk : k < l.length) (h : ∀ j (hj : j < l.length), j < k -> l[j] = 0) (hb : l[k] ≠ 0) : qO l = l[k] := by
 induction l generalizing k with
 | nil => simp at hk
 | cons e l ih =>
  cases k with
  | zero => simp only [List.getElem_cons_zero] at hb ⊢; unfold qO; rw [if_pos hb]
  | succ k => have h0 : e = 0 := h 0 ag ak;unfold qO;exact lN
theorem GL (a b : List Int) : qO (a ++ b) = if qO a ≠ 0 then qO a else qO b := by
 induction a with
 | nil => simp [qO]
 | cons e a ih =>
  by_cases h : e = 0
  ·simp [qO, h, ih]
  ·simp [qO, h]
def qE (q : Qn) : Int := if nH q.name ≠ 0 then nH q.name else if uc 65535 q.ty && uc 65535 q.cl then 0 else 4
def pR (m : oh) : Int :=
 if m.hd.ok = false then 4
 else if 65535 < m.qs.length \/ 65535 < m.an.length \/ 65535 < m.au.length \/ 65535 < m.ex.length then 3
 else if qO (m.qs.map qE) ≠ 0 then qO (m.qs.map qE)
 else qO (m.y7.map nU)
abbrev WS := List UInt8 × Option uE
def pJ (st : WS) (q : Qn) : WS := (st.1 ++ og st.2 st.1.length q.name ++ ny 2 q.ty ++ ny 2 q.cl, o8 st.2 st.1.length q.name)
def r8 (st : WS) (r : RR) : List UInt8 := st.1 ++ og st.2 st.1.length r.name ++ ny 2 r.ty ++ ny 2 r.cl ++ ny 4 r.ttl
def ud (st : WS) (r : RR) : Option uE := o8 st.2 st.1.length r.name
def sV (st : WS) (r : RR) : List UInt8 := sk (ud st r) ((r8 st r).length + 2) r
def nP (st : WS) (r : RR) : WS := (r8 st r ++ ny 2 (sV st r).length ++ sV st r, wW (ud st r) ((r8 st r).length + 2) r)
def qv (m : oh) (pack : Bool) : WS := (pP m.hd m.qs.length m.an.length m.au.length m.ex.length, if pack then some [] else none)
def vA (m : oh) (pack : Bool) : WS := m.y7.foldl nP (m.qs.foldl pJ (qv m pack))
def oT (m : oh) (pack : Bool) : List UInt8 × Int :=
 if pR m ≠ 0 then ([], pR m) else if 65535 < (vA m pack).1.length then ([], 3) else ((vA m pack).1, 0)
theorem Pj (st : WS) (q : Qn) : st.1.length <= (pJ st q).1.length := by simp [pJ]
theorem Jt (st : WS) (r : RR) : st.1.length <= (nP st r).1.length := by simp [nP, r8]
theorem Dx (l : List Qn) : ∀ st : WS, st.1.length <= (l.foldl pJ st).1.length := by
 induction l with
 | nil => intro st; exact Nat.le_refl _
 | cons q l ih => intro st; exact Nat.le_trans (Pj st q) (ih _)
theorem sJ (l : List RR) : ∀ st : WS, st.1.length <= (l.foldl nP st).1.length := by
 induction l with
 | nil => intro st; exact Nat.le_refl _
 | cons q l ih => intro st; exact Nat.le_trans (Jt st q) (ih _)
def qC (v : Value) (q : Qn) : List Value := [v, .int .i64 q.ty, .int .i64 q.cl]
def rT (h : Hd) (vq va vu ve : Value) : List Value := h.pc ++ [vq, va, vu, ve]
theorem tV (h : Hd) (vq va vu ve : Value) : (rT h vq va vu ve).length = 14 := rfl
theorem vM (h : Hd) {vq va vu ve : Value} (h1 : vq.oneCell' = true) (h2 : va.oneCell' = true) (h3 : vu.oneCell' = true) (h4 : ve.oneCell' = true) : ∀ v ∈ rT h vq va vu ve, v.oneCell' = true := by
 intro v hv;simp only [rT, Hd.pc, List.mem_append, List.mem_cons, List.not_mem_nil, or_false] at hv;rcases hv with (rfl | rfl | rfl | rfl | rfl | rfl | rfl | rfl | rfl | rfl) | rfl | rfl | rfl | rfl <;> first | rfl | assumption
theorem oy : (prog.info? 50).map (·.size) = some 14 := by kernel_rfl
theorem uY : (prog.info? 46).map (·.size) = some 10 := by kernel_rfl
theorem rD : (prog.info? 28).map (·.size) = some 3 := by kernel_rfl
def Vl (w : World) (A : Option Addr) (l : List Qn) : Prop := 0 < l.length -> ∃ b off, A = some ⟨b, off, none⟩ /\ b < w.heap.size /\ ∀ i (hi : i < l.length), ∃ An cn, w.rangeAt b (off + i * 3) (qC (.slice An l[i].name.length cn) l[i]) /\ rQ w An cn l[i].name
def EP (w : World) (A : Option Addr) (l : List RR) : Prop := 0 < l.length -> ∃ b off, A = some ⟨b, off, none⟩ /\ b < w.heap.size /\ ∀ i (hi : i < l.length), ∃ cs, w.rangeAt b (off + i * 33) cs /\ sH w cs l[i]
theorem nO {w w' : World} {B b o : Nat} {cs : List Value} (h : w.rangeAt b o cs) (hb : Below B w w') (hB : b < B) : w'.rangeAt b o cs := fun j v hv => (hb.cell hB).trans (h j v hv)
theorem Vl.below {w w' : World} {A : Option Addr} {l : List Qn} (h : Vl w A l) (hb : Below w.heap.size w w') : Vl w' A l := by
 intro hl;obtain ⟨b, off, h1, h2, h3⟩ := h hl;refine ⟨b, off, h1, Nat.lt_of_lt_of_le h2 hb.size, fun i hi => ?_⟩;obtain ⟨An, cn, h4, h5⟩ := h3 i hi;exact ⟨An, cn, nO h4 hb h2, h5.below hb⟩
theorem EP.below {w w' : World} {A : Option Addr} {l : List RR} (h : EP w A l) (hb : Below w.heap.size w w') : EP w' A l := by
 intro hl;obtain ⟨b, off, h1, h2, h3⟩ := h hl;refine ⟨b, off, h1, Nat.lt_of_lt_of_le h2 hb.size, fun i hi => ?_⟩;obtain ⟨cs, h4, h5⟩ := h3 i hi;exact ⟨cs, nO h4 hb h2, h5.below hb⟩
structure uG (w : World) (cs : List Value) (m : oh) (Aq Aa Au Ae : Option Addr) (cq ca cu ce : Nat) : Prop where
 hcs : cs = rT m.hd (.slice Aq m.qs.length cq) (.slice Aa m.an.length ca) (.slice Au m.au.length cu) (.slice Ae m.ex.length ce)
 hq : Vl w Aq m.qs
 ha : EP w Aa m.an
 hu : EP w Au m.au
 he : EP w Ae m.ex
 lq : m.qs.length <= 17592186044416
 la : m.an.length <= 17592186044416
 lu : m.au.length <= 17592186044416
 le : m.ex.length <= 17592186044416
theorem uG.below {w w' : World} {cs : List Value} {m : oh} {Aq Aa Au Ae : Option Addr} {cq ca cu ce : Nat} (h : uG w cs m Aq Aa Au Ae cq ca cu ce) (hb : Below w.heap.size w w') : uG w' cs m Aq Aa Au Ae cq ca cu ce :=
 ⟨h.hcs, h.hq.below hb, h.ha.below hb, h.hu.below hb, h.he.below hb, h.lq, h.la, h.lu, h.le⟩
open Go.ChangeShapes Go.WideShapes Go.ChangeAt Go.RowKit
theorem pK (cs : List Value) (n k m : Nat) (h : m = n + k) : cs.drop n = (cs.drop n).take k ++ cs.drop m := by
 subst h; rw [<- List.drop_drop, List.take_append_drop]
theorem KG : ∀ (cs : List Value), (∀ (i : Nat) (hi : i < cs.length), ∃ b : UInt8, cs[i] = .int .u8 (b.toNat : Int)) -> ∃ l : List UInt8, cs = oM l
 | [], _ => ⟨[], rfl⟩
 | c :: cs, h => by
  obtain ⟨b, hb⟩ := h 0 ag;obtain ⟨l, hl⟩ := KG cs (fun i hi => by have := h (i + 1) aw; simpa using this);simp at hb;exact ⟨b :: l, by rw [hb, hl]; rfl⟩
theorem VM {cs : List Value} {i : Nat} {v : Value} (hi : i < cs.length) (h : (cs.drop i).take 1 = [v]) : cs[i] = v := by
 have : ((cs.drop i).take 1)[0]? = some v := by rw [h]; rfl
 rw [List.getElem?_take_of_lt ak, List.getElem?_drop, Nat.add_zero, List.getElem?_eq_getElem hi] at this;exact Option.some.inj this
section
variable {H : Type} {enc : TypeId × Value -> H} {w : World} {cs : List Value}
theorem qF (h : oj enc prog w 3 cs) : ∃ n : Int, cs = [.int .i64 n] := by obtain ⟨n, e, _⟩ := h.int underlying3; exact ⟨n, e⟩
theorem Sk (h : oj enc prog w 22 cs) : ∃ l : List UInt8, l.length = 16 /\ cs = oM l := by
 have c16 : prog.cellsOf 22 = 16 := by kernel_rfl
 have c1 : prog.cellsOf 5 = 1 := by kernel_rfl
 obtain ⟨hl, hf⟩ := h.array underlying22;rw [c16] at hl;rw [c1] at hf;obtain ⟨l, e⟩ := KG cs (fun i hi => by
  obtain ⟨n, e, hw⟩ := (hf i ak).int underlying5;rw [Nat.mul_one] at e;have e2 := VM hi e;simp only [Lit.wf, Bool.and_eq_true, decide_eq_true_eq] at hw;have h0 : 0 <= n := hw.1;have h1 : n <= 255 := hw.2;refine ⟨UInt8.ofNat n.toNat, ?_⟩;rw [e2];have e3 : (UInt8.ofNat n.toNat).toNat = n.toNat := by rw [UInt8.toNat_ofNat']; exact Nat.mod_eq_of_lt ak
  rw [e3, Int.toNat_of_nonneg h0])
 refine ⟨l, ?_, e⟩;rw [e, oK] at hl;exact hl
theorem AE (h : oj enc prog w 24 cs) : ∃ a : oi, a.ip.length = 16 /\ cs = a.cells := by
 have c18 : prog.cellsOf 24 = 18 := by kernel_rfl
 have c1 : prog.cellsOf 3 = 1 := by kernel_rfl
 have c16 : prog.cellsOf 22 = 16 := by kernel_rfl
 obtain ⟨hl, hf⟩ := h.struct underlying24;rw [c18] at hl;have h0 : oj enc prog w 3 ((cs.drop 0).take (prog.cellsOf 3)) := ju;have h1 : oj enc prog w 22 ((cs.drop 1).take (prog.cellsOf 22)) := jt;have h2 : oj enc prog w 3 ((cs.drop 17).take (prog.cellsOf 3)) := hf 2 _ rfl;rw [c1] at h0 h2;rw [c16] at h1;obtain ⟨f, e0⟩ := qF h0;obtain ⟨ip, i16, e1⟩ := Sk h1;obtain ⟨z, e2⟩ := qF h2;refine ⟨⟨f, ip, z⟩, i16, ?_⟩;show cs.drop 0 = _;rw [pK cs 0 1 1 rfl, e0, pK cs 1 16 17 rfl, e1, pK cs 17 1 18 rfl, e2, List.drop_of_length_le ak];rfl
theorem UF (h : oj enc prog w 28 cs) : ∃ q : Qn, ∃ An cn, cs = qC (.slice An q.name.length cn) q /\ rQ w An cn q.name := by
 have c33 : prog.cellsOf 28 = 3 := by kernel_rfl
 have c1 : prog.cellsOf 3 = 1 := by kernel_rfl
 have cn : prog.cellsOf 26 = 1 := by kernel_rfl
 obtain ⟨hl, hf⟩ := h.struct underlying28;rw [c33] at hl;have h0 : oj enc prog w 26 ((cs.drop 0).take (prog.cellsOf 26)) := ju;have h1 : oj enc prog w 3 ((cs.drop 1).take (prog.cellsOf 3)) := jt;have h2 : oj enc prog w 3 ((cs.drop 2).take (prog.cellsOf 3)) := hf 2 _ rfl;rw [cn] at h0;rw [c1] at h1 h2;obtain ⟨An, kn, n, e0, r0⟩ := zN underlying26 h0;obtain ⟨ty, e1⟩ := qF h1;obtain ⟨cl, e2⟩ := qF h2;refine ⟨⟨n, ty, cl⟩, An, kn, ?_, r0⟩;show cs.drop 0 = _;rw [pK cs 0 1 1 rfl, e0, pK cs 1 1 2 rfl, e1, pK cs 2 1 3 rfl, e2, List.drop_of_length_le ak];rfl
theorem wD (h : oj enc prog w 4 cs) : ∃ b : Bool, cs = [.bool b] := h.bool underlying4
end
theorem yR (n : Int) (w : World) : Calls prog 204 #[.int .i64 n] w (rN (.bool (uc 65535 n)) w) := by
 unfold uc;by_cases h0 : 0 <= n
 ·
  have d0 : decide (0 <= n) = true := decide_eq_true h0;by_cases h1 : n <= 65535
  ·have d1 : decide (n <= 65535) = true := decide_eq_true h1;rw [d0, d1];go_enter func204, ntmps204;exact j2
  ·have d1 : decide (n <= 65535) = false := decide_eq_false h1;rw [d0, d1];go_enter func204, ntmps204;exact j2
 ·have d0 : decide (0 <= n) = false := decide_eq_false h0;rw [d0];clear h0;go_enter func204, ntmps204;exact j2
theorem Sm (h : Hd) (vq va vu ve : Value) : (rT h vq va vu ve)[11]? = some va := rfl
theorem Sn (h : Hd) (vq va vu ve : Value) : (rT h vq va vu ve)[12]? = some vu := rfl
theorem So (h : Hd) (vq va vu ve : Value) : (rT h vq va vu ve)[13]? = some ve := rfl
theorem Dy (h : Hd) (vq : Value) (Aa Au Ae : Option Addr) (na nu ne ca cu ce : Nat) (w : World) :
  Calls prog 170 #[.agg (rT h vq (.slice Aa na ca) (.slice Au nu cu) (.slice Ae ne ce)).toArray] w (nM (.agg #[.slice Aa na ca, .slice Au nu cu, .slice Ae ne ce]) w) := by
 have hl := tV h vq (.slice Aa na ca) (.slice Au nu cu) (.slice Ae ne ce);have L1 := Sm h vq (.slice Aa na ca) (.slice Au nu cu) (.slice Ae ne ce);have L2 := Sn h vq (.slice Aa na ca) (.slice Au nu cu) (.slice Ae ne ce);have L3 := So h vq (.slice Aa na ca) (.slice Au nu cu) (.slice Ae ne ce);generalize rT h vq (.slice Aa na ca) (.slice Au nu cu) (.slice Ae ne ce) = cs at *;have g1 : ∀ hi : 11 < cs.length, cs[11]'hi = .slice Aa na ca := qz L1;have g2 : ∀ hi : 12 < cs.length, cs[12]'hi = .slice Au nu cu := qz L2;have g3 : ∀ hi : 13 < cs.length, cs[13]'hi = .slice Ae ne ce := qz L3;clear L1 L2 L3;go_enter func170, ntmps170;go_wp2_with fail;refine oP rfl (w.heap.size + 1) rfl (nj.ph _ _ [.slice Aa na ca, .slice Au nu cu, .slice Ae ne ce] _ ag) _ underlying281 rfl (by kernel_rfl) rfl ?_;exact mL
theorem Mo (m : oh) : pR m = if m.hd.ok = false then 4
  else if 65535 < m.qs.length \/ 65535 < m.an.length \/ 65535 < m.au.length \/ 65535 < m.ex.length then 3
  else if qO (m.qs.map qE) ≠ 0 then qO (m.qs.map qE)
  else if qO (m.an.map nU) ≠ 0 then qO (m.an.map nU)
  else if qO (m.au.map nU) ≠ 0 then qO (m.au.map nU) else qO (m.ex.map nU) := by
 unfold pR oh.y7;rw [List.map_append, List.map_append, GL, GL];by_cases h1 : qO (m.an.map nU) = 0
 ·simp [h1]
 ·simp [h1]
theorem zr {α : Type} (f : α -> Int) (l : List α) (h : ∀ j (hj : j < l.length), f l[j] = 0) : qO (l.map f) = 0 :=
 Sj (fun j hj => by rw [List.getElem_map]; exact h j (by simpa using hj))
theorem xS {α : Type} (f : α -> Int) (l : List α) (k : Nat) (hk : k < l.length) (h : ∀ j (hj : j < l.length), j < k -> f l[j] = 0) (hb : f l[k] ≠ 0) : qO (l.map f) = f l[k] := by
 have := Ph (l := l.map f) (k := k) aP (fun j hj hjk => by rw [List.getElem_map]; exact h j (by simpa using hj) hjk) (by rw [List.getElem_map]; exact hb);rwa [List.getElem_map] at this
theorem pv {P : Program} {ops : Array Oper} {rest : List Oper} {op : Oper} {a : Act} {w : World} {Q : Exit -> Act -> World -> Prop} (hgd : op.guard = none) (ty : TypeId) (x : Operand) (ho : op.op = .load ty x)
  (b o : Nat) (hx : a.eval x = .pointer (some ⟨b, o, none⟩)) (cs : List Value) (hc : w.rangeAt b o cs) (d : TypeDesc)
  (hu : P.underlying ty = some d) (hd : d.isRow = true) (hi : (P.info? ty).map (·.size) = some cs.length)
  (h : wpList P ops Q rest (a.put op.dst (.agg cs.toArray)) w) : wpList P ops Q (op :: rest) a w :=
 wpList_plain hgd fun K hK => wp_load_mid ty x ho b o hx cs d hc hu hd hi (hK _ _ h)
theorem sH.len {w : World} {cs : List Value} {r : RR} (h : sH w cs r) : cs.length = 33 := by obtain ⟨_, _, _, _, _, _, rfl, hr, _⟩ := h; exact pn hr
theorem sH.one {w : World} {cs : List Value} {r : RR} (h : sH w cs r) : ∀ v ∈ cs, v.oneCell' = true := by obtain ⟨_, _, _, _, _, _, rfl, hr, _⟩ := h; exact qg rfl rfl rfl
theorem wE : ∀ {l : List Int}, qO l = 0 -> ∀ e ∈ l, e = 0
 | [], _, e, he => by cases he
 | x :: l, h, e, he => by
  unfold qO at h;by_cases hx : x = 0
  ·
   rw [if_neg (by simp [hx])] at h;rcases List.mem_cons.1 he with rfl | he
   ·exact hx
   ·exact wE h e he
  ·rw [if_pos hx] at h; exact absurd h hx
structure WQ (m : oh) : Prop where
 hd : m.hd.ok = true
 lq : m.qs.length <= 65535
 la : m.an.length <= 65535
 lu : m.au.length <= 65535
 le : m.ex.length <= 65535
 q : ∀ q ∈ m.qs, nH q.name = 0
 r : ∀ r ∈ m.y7, nU r = 0
theorem Ju {m : oh} (h : pR m = 0) : WQ m := by
 unfold pR at h;cases hk : m.hd.ok with
 | false => rw [if_pos hk] at h; cases h
 | true =>
  rw [if_neg (by simp [hk])] at h;by_cases h1 : 65535 < m.qs.length \/ 65535 < m.an.length \/ 65535 < m.au.length \/ 65535 < m.ex.length
  ·rw [if_pos h1] at h; cases h
  ·
   rw [if_neg h1] at h;by_cases h2 : qO (m.qs.map qE) = 0
   ·
    rw [if_neg (by simp [h2])] at h;refine ⟨hk, ak, ak, ak, ak, fun q hq => ?_, fun r hr => wE h _ (List.mem_map_of_mem hr)⟩;have := wE h2 _ (List.mem_map_of_mem hq);unfold qE at this;by_cases h3 : nH q.name = 0
    ·exact h3
    ·rw [if_pos h3] at this; exact this
   ·rw [if_pos h2] at h; exact absurd h h2
theorem Jv (l : List Qn) (k : Nat) (st : WS) : ((l.take k).foldl pJ st).1.length <= (l.foldl pJ st).1.length := by
 conv => rhs; rw [<- List.take_append_drop k l, List.foldl_append]
 exact Dx _ _
theorem Jw (l : List RR) (k : Nat) (st : WS) : ((l.take k).foldl nP st).1.length <= (l.foldl nP st).1.length := by
 conv => rhs; rw [<- List.take_append_drop k l, List.foldl_append]
 exact sJ _ _
theorem vl {α β : Type} (f : β -> α -> β) (l : List α) (k : Nat) (hk : k < l.length) (st : β) : (l.take (k + 1)).foldl f st = f ((l.take k).foldl f st) l[k] := by
 rw [List.take_succ_eq_append_getElem hk, List.foldl_append]; rfl
theorem sj.mono {T : Option uE} {a b : Nat} (h : sj T a) (hab : a <= b) : sj T b := fun T' e => Nat.le_trans (h T' e) hab
theorem Pk {st : WS} {k : Nat} (h : sj st.2 k) (q : Qn) : sj (pJ st q).2 (k + 254) := h.put _ _
theorem Jx {st : WS} {k : Nat} (h : sj st.2 k) (r : RR) : sj (nP st r).2 (k + 762) := by
 have h1 : sj (ud st r) (k + 254) := h.put _ _;change sj (wW (ud st r) ((r8 st r).length + 2) r) (k + 762);unfold wW;split
 ·exact (h1.put _ _).mono ak
 split
 ·exact ((h1.put _ _).put _ _).mono ak
 ·exact h1.mono ak
theorem yz : ∀ (l : List Qn) (st : WS) (k : Nat), sj st.2 k -> sj (l.foldl pJ st).2 (k + 254 * l.length)
 | [], st, k, h => h
 | q :: l, st, k, h => (yz l (pJ st q) (k + 254) (Pk h q)).mono al
theorem wF : ∀ (l : List RR) (st : WS) (k : Nat), sj st.2 k -> sj (l.foldl nP st).2 (k + 762 * l.length)
 | [], st, k, h => h
 | r :: l, st, k, h => (wF l (nP st r) (k + 762) (Jx h r)).mono al
theorem Mp (m : oh) (pack : Bool) : sj (qv m pack).2 0 := by
  intro T' h;cases pack with
  | false => cases h
  | true => obtain rfl : [] = T' := by simpa [qv] using h
            simp
theorem AF {m : oh} (pack : Bool) (h : pR m ≠ 0) : oT m pack = ([], pR m) := by unfold oT; rw [if_pos h]
theorem wG {m : oh} (pack : Bool) (h : pR m = 0) (hl : 65535 < (vA m pack).1.length) : oT m pack = ([], 3) := by unfold oT; rw [if_neg (by simp [h]), if_pos hl]
theorem zt {m : oh} (pack : Bool) (h : pR m = 0) (hl : ¬ 65535 < (vA m pack).1.length) : oT m pack = ((vA m pack).1, 0) := by unfold oT; rw [if_neg (by simp [h]), if_neg hl]
theorem KH (m : oh) (pack : Bool) : vA m pack = m.ex.foldl nP (m.au.foldl nP (m.an.foldl nP (m.qs.foldl pJ (qv m pack)))) := by
 unfold vA oh.y7;rw [List.foldl_append, List.foldl_append]
theorem Dz (m : oh) (pack : Bool) : (qv m pack).1.length = 12 := by simp [qv, pP, np]
theorem Jy {P : Program} {ops : Array Oper} {rest : List Oper} {o : Oper} {a : Act} {w : World} {Q : Exit -> Act -> World -> Prop} (hgd : o.guard = none) (t1 t2 : TypeId) (x : Operand) (ho : o.op = .convert t1 t2 x) (v : Value) (hx : a.eval x = v) {v' : Value} {w' : World}
  (hr : (convert t1 t2 v).run P w = .ok v' w') (h : wpList P ops Q rest (a.put o.dst v') w') : wpList P ops Q (o :: rest) a w := by
 exact lG
theorem uW.grown {lo : Nat} {w w' : World} {p : Option Addr} {T : Option uE} {row : Option Nat} (h : uW lo w p T) (hg : w.grownBy w' row) (hne : ∀ k, row = some k -> ∃ cs t fz, w.heap[k]? = some (.cells cs t fz) /\ t ≠ 315) : uW lo w' p T := by
 cases T with
 | none => exact h
 | some T =>
  obtain ⟨g, b, h1, h2, h3, h4, ⟨f, h5, h6⟩, h7⟩ := h;have n1 : some g ≠ row := by intro he;obtain ⟨cs, t, fz, hh, ht⟩ := hne g he.symm;have h4' : w.heap[g]? = _ := h4;rw [hh] at h4';injection h4' with h4';injection h4' with _ h4';exact ht h4'
  have n2 : some b ≠ row := by intro he;obtain ⟨cs, t, fz, hh, ht⟩ := hne b he.symm;obtain ⟨D, ⟨es, cl, hm, _⟩, _⟩ := h5;rw [hh] at hm; cases hm
  exact ⟨g, b, h1, h2, h3, h4.grown hg n1, ⟨f, h5.kept hg n2, h6⟩, h7⟩
def rU (lo : Nat) (w : World) (gw : Nat) (s : List UInt8) (p : Option Addr) (T : Option uE) : Prop :=
 ∃ A c, lo <= gw /\ nj w gw 277 [.slice A s.length c, .pointer p] /\ sU w lo (.slice A s.length c) s /\ uW lo w p T
theorem rU.below {lo : Nat} {w w' : World} {gw : Nat} {s : List UInt8} {p : Option Addr} {T : Option uE} (h : rU lo w gw s p T) (hb : Below w.heap.size w w') : rU lo w' gw s p T := by
 obtain ⟨A, c, h1, h2, h3, h4⟩ := h;exact ⟨A, c, h1, h2.below hb h2.lt, h3.below hb, h4.below hb⟩
def o9 (lo : Nat) (w w' : World) : Prop := Below lo w w' /\ ∀ g t cs, nj w g t cs -> t ≠ 277 -> t ≠ 5 -> nj w' g t cs
theorem o9.trans {lo : Nat} {w w1 w2 : World} (h : o9 lo w w1) (h' : o9 lo w1 w2) : o9 lo w w2 := ⟨h.1.trans h'.1, fun k t cs hb h1 h2 => h'.2 k t cs (h.2 k t cs hb h1 h2) h1 h2⟩
theorem o9.xK {lo : Nat} {w w1 : World} (h : Below w.heap.size w w1) (hlo : lo <= w.heap.size) : o9 lo w w1 := ⟨h.mono hlo, fun k t cs hb _ _ => hb.below h hb.lt⟩
theorem o9.Pm {lo : Nat} {w w1 : World} (h : sC lo w w1) : o9 lo w w1 := ⟨h.1, fun k t cs hb _ _ => h.oL hb⟩
theorem o9.size {lo : Nat} {w w1 : World} (h : o9 lo w w1) (hlo : lo <= w.heap.size) : lo <= w1.heap.size := sP h.1 hlo
theorem ER {lo gw : Nat} {w w1 w2 : World} {s x : List UInt8} {p : Option Addr} {T : Option uE} {A A' : Option Addr} {c c' : Nat} (hlo : lo <= w.heap.size) (h1 : lo <= gw) (h2 : nj w gw 277 [.slice A s.length c, .pointer p]) (h3 : sU w lo (.slice A s.length c) s) (h4 : uW lo w p T)
  (k1 : sU w1 lo (.slice A' (s ++ x).length c') (s ++ x)) (g1 : w.grownBy w1 (Value.slice A s.length c).ownBlock) (k2 : nj w2 gw 277 [.slice A' (s ++ x).length c', .pointer p]) (g2 : w1.grownBy w2 (some gw)) :
  rU lo w2 gw (s ++ x) p T /\ o9 lo w w2 := by
 have b1 : nj w1 gw 277 [.slice A s.length c, .pointer p] := h2.grown g1 (h3.ne h2 aj);have t1 : uW lo w1 p T := h4.grown g1 (by
  intro k hk;rcases h3 with ⟨hv, _⟩ | ⟨g, cap, cur, fz, hv, hB, hh, _⟩
  ·rw [hv] at hk; simp [Value.ownBlock] at hk
  ·
   rw [hv] at hk;obtain rfl : g = k := fP;exact ⟨_, _, _, hh, aj⟩)
 have t2 : uW lo w2 p T := t1.grown g2 (by
  intro k hk;obtain rfl := Option.some.inj hk;exact ⟨_, _, _, b1, aj⟩)
 have o2 : sU w2 lo (.slice A' (s ++ x).length c') (s ++ x) := k1.kept g2 (.inr (fun he => k1.ne b1 aj he.symm));have B1 : Below lo w w1 := (Below.refl _ _).grown g1 hlo h3.base;have B2 : Below lo w w2 := ng B1 g2 (sP B1 hlo) h1;refine ⟨⟨A', c', h1, k2, o2, t2⟩, B2, fun g t cs hb n1 n2 => ?_⟩;have hb1 : nj w1 g t cs := hb.grown g1 (h3.ne hb n2);refine hb1.grown g2 ?_;intro he;obtain rfl := Option.some.inj he;have hh : w1.heap[g]? = _ := hb1;have b1' : w1.heap[g]? = _ := b1;exact mM
def yS (lo gw : Nat) (p : Option Addr) (v : Value) (s : List UInt8) (T : Option uE) (w : World) (x : Ending) (w' : World) : Prop :=
 x = .returned v /\ rU lo w' gw s p T /\ o9 lo w w'
theorem uZ : (prog.info? 145).map (·.size) = some 1 := by kernel_rfl
theorem GM {w w' : World} {v v' : Value} {x : List UInt8} {ty : TypeId} {o : Oper} {a : Act} (sl y : Operand) (ho : o.op = .call { callee := .builtin .append, args := #[sl, y], argTypes := #[145, 9] }) (hty : o.type = ty) (hs : a.eval sl = v) (hy : a.eval y = .string (bs x))
  (hr : (Builtin.append_ #[145, 9] ty #[v, .string (bs x)]).run prog w = .ok v' w') : (execOp a.eval o).run prog w = .ok (.value v') w' := by
 exact kq
set_option maxHeartbeats 2000000 in
theorem GN (lo gw : Nat) (s : List UInt8) (p : Option Addr) (T : Option uE) (width n : Int) (w : World) (hW : rU lo w gw s p T) (hlo : lo <= w.heap.size) (hl : s.length <= 10000000) :
  Calls prog 209 #[.pointer (some ⟨gw, 0, none⟩), .int .i64 width, .int .i64 n] w (yS lo gw p (.tuple #[]) (s ++ ny (hw width) n) T w) := by
 obtain ⟨A, c, h1, h2, h3, h4⟩ := hW;have P := Hh (fun w => pg width n w);have xl : (ny (hw width) n).length <= 4 := by rw [np]; exact Od width
 generalize ny (hw width) n = x at *;go_enter func209, ntmps209;go_wp2_with fail;refine wp_region_held_drew (S := fun _ => True) (by kernel_rfl) trivial (fun hS => ?_);have hD : Below w.heap.size w w.drew := fw
 (refine nF 0 (some 6) rfl rfl (by kernel_rfl) (by kernel_rfl) (by kernel_rfl) (fun _ _ _ h => h) (by kernel_rfl) (fun W hW => rfl) hS ?_; simp only [Act.put, nB, nC, nD])
 (refine nF 1 (some 7) rfl rfl (by kernel_rfl) (by kernel_rfl) (by kernel_rfl) (fun _ _ _ h => h) (by kernel_rfl) (fun W hW => rfl) hS ?_; simp only [Act.put, nB, nC, nD])
 (refine nF 2 (some 8) rfl rfl (by kernel_rfl) (by kernel_rfl) (by kernel_rfl) (fun _ _ _ h => h) (by kernel_rfl) (fun W hW => rfl) hS ?_; simp only [Act.put, nB, nC, nD])
 (refine nF 3 (some 9) rfl rfl (by kernel_rfl) (by kernel_rfl) (by kernel_rfl) (fun _ _ _ h => h) (by kernel_rfl) (fun W hW => rfl) hS ?_; simp only [Act.put, nB, nC, nD])
 (refine nF 5 (some 11) rfl rfl (by kernel_rfl) (by kernel_rfl) (by kernel_rfl) (fun _ _ _ h => h) (by kernel_rfl) (fun W hW => rfl) hS ?_; simp only [Act.put, nB, nC, nD])
 (refine nF 6 (some 12) rfl rfl (by kernel_rfl) (by kernel_rfl) (by kernel_rfl) (fun _ _ _ h => h) (by kernel_rfl) (fun W hW => rfl) hS ?_; simp only [Act.put, nB, nC, nD])
 refine qM 4 7 (by kernel_rfl) ?_ ?_
 ·
  refine rm 4 (some 10) 145 (.tmp 9) ⟨gw, 0, none⟩ rfl rfl rfl rfl (by kernel_rfl) (nN underlying145 rfl (h2.nf 0 rfl)) ?_;refine ⟨trivial, ?_⟩;simp only [Act.put, nB, nC, nD];refine nJ 7 (by kernel_rfl) ?_;refine ot 7 (some 13) 117 #[.int .i64 width, .int .i64 n] rfl rfl (by kernel_rfl) aS (P.out _) ?_;rintro _ w1 ⟨rfl, b1⟩;replace b1 := hD.trans b1;refine ⟨_, rfl, trivial, ?_⟩;simp only [Act.put, nB, nC, nD];obtain ⟨v', w2, hr, k1, g1⟩ := zJ w1 145 lo _ s x (h3.below b1) (Nat.le_trans hlo b1.size) ak;obtain ⟨A', c', rfl⟩ := k1.form;refine nJ 8 (by kernel_rfl) ?_;refine oe 8 (some 14) rfl rfl (by kernel_rfl) (GM (.tmp 10) (.tmp 13) rfl rfl rfl rfl hr) ?_;refine ⟨trivial, ?_⟩;simp only [Act.put, nB, nC, nD]
  (refine nF 9 (some 15) rfl rfl (by kernel_rfl) (by kernel_rfl) (by kernel_rfl) (fun _ _ _ h => h) (by kernel_rfl) (fun W hW => rfl) hS ?_; simp only [Act.put, nB, nC, nD])
  (refine nF 10 (some 16) rfl rfl (by kernel_rfl) (by kernel_rfl) (by kernel_rfl) (fun _ _ _ h => h) (by kernel_rfl) (fun W hW => rfl) hS ?_; simp only [Act.put, nB, nC, nD])
  refine nJ 11 (by kernel_rfl) ?_;have B2 := (h2.below b1 h2.lt).grown g1 ((h3.below b1).ne (h2.below b1 h2.lt) aj);refine ri 11 145 (.tmp 16) (.tmp 14) rfl rfl rfl (by kernel_rfl) gw 0 rfl _ rfl B2 ag uZ rfl rfl ?_;intro w3 hb3 hg3 hs3;refine ⟨trivial, ?_⟩;simp only [Act.put, nB, nC, nD];refine wpAnyH_done (by kernel_rfl) ?_ _;exact kE
 ·
  refine ot 7 (some 13) 117 #[.int .i64 width, .int .i64 n] rfl rfl (by kernel_rfl) aS (P.out _) ?_;rintro _ w1 ⟨rfl, b1⟩;replace b1 := hD.trans b1;refine ⟨_, rfl, trivial, ?_⟩;simp only [Act.put, nB, nC, nD];refine nJ 4 (by kernel_rfl) ?_;refine rm 4 (some 10) 145 (.tmp 9) ⟨gw, 0, none⟩ rfl rfl rfl rfl (by kernel_rfl) (nN underlying145 rfl ((h2.below b1 h2.lt).nf 0 rfl)) ?_;refine ⟨trivial, ?_⟩;simp only [Act.put, nB, nC, nD];obtain ⟨v', w2, hr, k1, g1⟩ := zJ w1 145 lo _ s x (h3.below b1) (Nat.le_trans hlo b1.size) ak;obtain ⟨A', c', rfl⟩ := k1.form;refine nJ 8 (by kernel_rfl) ?_;refine oe 8 (some 14) rfl rfl (by kernel_rfl) (GM (.tmp 10) (.tmp 13) rfl rfl rfl rfl hr) ?_;refine ⟨trivial, ?_⟩;simp only [Act.put, nB, nC, nD]
  (refine nF 9 (some 15) rfl rfl (by kernel_rfl) (by kernel_rfl) (by kernel_rfl) (fun _ _ _ h => h) (by kernel_rfl) (fun W hW => rfl) hS ?_; simp only [Act.put, nB, nC, nD])
  (refine nF 10 (some 16) rfl rfl (by kernel_rfl) (by kernel_rfl) (by kernel_rfl) (fun _ _ _ h => h) (by kernel_rfl) (fun W hW => rfl) hS ?_; simp only [Act.put, nB, nC, nD])
  refine nJ 11 (by kernel_rfl) ?_;have B2 := (h2.below b1 h2.lt).grown g1 ((h3.below b1).ne (h2.below b1 h2.lt) aj);refine ri 11 145 (.tmp 16) (.tmp 14) rfl rfl rfl (by kernel_rfl) gw 0 rfl _ rfl B2 ag uZ rfl rfl ?_;intro w3 hb3 hg3 hs3;refine ⟨trivial, ?_⟩;simp only [Act.put, nB, nC, nD];refine wpAnyH_done (by kernel_rfl) ?_ _;exact kE
set_option maxHeartbeats 2000000 in
theorem DA (lo gw : Nat) (s : List UInt8) (p : Option Addr) (T : Option uE) (An : Option Addr) (cn : Nat) (n : List (List UInt8)) (w : World) (hW : rU lo w gw s p T) (hN : rQ w An cn n) (hlo : lo <= w.heap.size) (hl : s.length <= 10000000) (hf : sj T 900000) :
  Calls prog 208 #[.pointer (some ⟨gw, 0, none⟩), .slice An n.length cn] w (yS lo gw p (.int .i64 (nH n)) (s ++ og T s.length n) (o8 T s.length n) w) := by
 obtain ⟨A, c, h1, h2, h3, h4⟩ := hW;have P := Hh (fun w' (b : Below w.heap.size w w') => xQ lo p T An cn n (s.length : Int) w' (Nat.le_trans hlo b.size) (h4.below b) (hN.below b) hf);have xl := qD T (s.length : Int) n;generalize og T (s.length : Int) n = x at *;generalize o8 T (s.length : Int) n = T' at *;generalize nH n = e at *;generalize n.length = nl at *;clear hN hf h4;go_enter func208, ntmps208;go_wp2_with fail;refine wp_region_held_drew (S := fun W => nj W gw 277 [.slice A s.length c, .pointer p]) (by kernel_rfl) h2.drew (fun hS => ?_);have hD : Below w.heap.size w w.drew := fw
 (refine nF 0 (some 8) rfl rfl (by kernel_rfl) (by kernel_rfl) (by kernel_rfl) (fun _ _ _ h => h) (by kernel_rfl) (fun W hW => rfl) hS ?_; simp only [Act.put, nB, nC, nD])
 (refine nF 1 (some 9) rfl rfl (by kernel_rfl) (by kernel_rfl) (by kernel_rfl) (fun _ _ _ h => h) (by kernel_rfl) (fun W hW => rfl) hS ?_; simp only [Act.put, nB, nC, nD])
 (refine nF 2 (some 10) rfl rfl (by kernel_rfl) (by kernel_rfl) (by kernel_rfl) (fun _ _ _ h => h) (by kernel_rfl) (fun W hW => rfl) hS ?_; simp only [Act.put, nB, nC, nD])
 refine qf 3 (some 11) 275 (.tmp 10) ⟨gw, 1, none⟩ rfl rfl rfl rfl (by kernel_rfl) (by kernel_rfl) (by kernel_rfl) (fun _ _ _ h => h) (by kernel_rfl) (fun W hW => nN underlying275 rfl (hW.nf 1 rfl)) hS ?_;simp only [Act.put, nB, nC, nD]
 (refine nF 4 (some 12) rfl rfl (by kernel_rfl) (by kernel_rfl) (by kernel_rfl) (fun _ _ _ h => h) (by kernel_rfl) (fun W hW => rfl) hS ?_; simp only [Act.put, nB, nC, nD])
 (refine nF 5 (some 13) rfl rfl (by kernel_rfl) (by kernel_rfl) (by kernel_rfl) (fun _ _ _ h => h) (by kernel_rfl) (fun W hW => rfl) hS ?_; simp only [Act.put, nB, nC, nD])
 (refine nF 6 (some 14) rfl rfl (by kernel_rfl) (by kernel_rfl) (by kernel_rfl) (fun _ _ _ h => h) (by kernel_rfl) (fun W hW => rfl) hS ?_; simp only [Act.put, nB, nC, nD])
 (refine nF 7 (some 15) rfl rfl (by kernel_rfl) (by kernel_rfl) (by kernel_rfl) (fun _ _ _ h => h) (by kernel_rfl) (fun W hW => rfl) hS ?_; simp only [Act.put, nB, nC, nD])
 refine qf 8 (some 16) 145 (.tmp 15) ⟨gw, 0, none⟩ rfl rfl rfl rfl (by kernel_rfl) (by kernel_rfl) (by kernel_rfl) (fun _ _ _ h => h) (by kernel_rfl) (fun W hW => nN underlying145 rfl (hW.nf 0 rfl)) hS ?_;simp only [Act.put, nB, nC, nD];refine nF 9 (some 17) (v := .int .i64 (s.length : Int)) rfl rfl (by kernel_rfl) (by kernel_rfl) (by kernel_rfl) (fun _ _ _ h => h) (by kernel_rfl) (fun W hW => by go_simp) hS ?_;simp only [Act.put, nB, nC, nD];refine oY 10 (some 18) 236 #[.pointer p, .slice An nl cn, .int .i64 (s.length : Int)] (by kernel_rfl) rfl rfl (by kernel_rfl) aS (P.out _ hD) ?_;rintro _ w1 ⟨rfl, hT1, hK1⟩;have B1 := hK1.oL h2.drew;have O1 : sU w1 lo (.slice A s.length c) s := by
  rcases h3 with hn | ⟨g, cap, cur, fz, hv, hB, hh, rest⟩
  ·exact .inl hn
  ·exact .inr ⟨g, cap, cur, fz, hv, hB, hK1.2 g _ cur fz hh, rest⟩
 have K1 : o9 lo w w1 := (o9.xK hD hlo).trans (o9.Pm hK1);have hlo1 := K1.size hlo;refine ⟨_, rfl, B1, ?_⟩;clear hS hK1 P hD h2 h3;have hS := B1;simp only [Act.put, nB, nC, nD]
 (refine nF 11 (some 7) rfl rfl (by kernel_rfl) (by kernel_rfl) (by kernel_rfl) (fun _ _ _ h => h) (by kernel_rfl) (fun W hW => rfl) hS ?_; simp only [Act.put, nB, nC, nD])
 (refine nF 12 (some 19) rfl rfl (by kernel_rfl) (by kernel_rfl) (by kernel_rfl) (fun _ _ _ h => h) (by kernel_rfl) (fun W hW => rfl) hS ?_; simp only [Act.put, nB, nC, nD])
 (refine nF 13 (some 20) rfl rfl (by kernel_rfl) (by kernel_rfl) (by kernel_rfl) (fun _ _ _ h => h) (by kernel_rfl) (fun W hW => rfl) hS ?_; simp only [Act.put, nB, nC, nD])
 (refine nF 14 (some 5) rfl rfl (by kernel_rfl) (by kernel_rfl) (by kernel_rfl) (fun _ _ _ h => h) (by kernel_rfl) (fun W hW => rfl) hS ?_; simp only [Act.put, nB, nC, nD])
 (refine nF 15 (some 6) rfl rfl (by kernel_rfl) (by kernel_rfl) (by kernel_rfl) (fun _ _ _ h => h) (by kernel_rfl) (fun W hW => rfl) hS ?_; simp only [Act.put, nB, nC, nD])
 refine wpAnyH_done (by kernel_rfl) ?_ _;clear hS;have c0 := B1.nf 0 rfl;go_wp2_with (at_builtin; go_must (refine xL _ rfl (.tmp 25) (.tmp 26) rfl lo _ s x rfl O1 hlo1 rfl ak ?_));intro A' c' w2 k1 g1;have B2 := B1.grown g1 (O1.ne B1 aj);clear c0;go_wp2_with (refine nh (.store 145 (.tmp 29) (.tmp 27)) rfl (af rfl gw 0 _ B2 ag uZ ?_));intro w3 hb3 hg3 hs3;rw [<- List.length_append] at hb3 k1;obtain ⟨R1, R2⟩ := ER (x := x) hlo1 h1 B1 O1 hT1 k1 g1 hb3 hg3;have R3 := K1.trans R2;clear hb3 hg3 hs3 B2 g1 k1 R2 B1 O1;go_wp2_with fail;go_ret;exact ⟨rfl, R1, R3⟩
theorem o9.VN {lo : Nat} {w w' : World} (h : o9 lo w w') {g : Nat} {cs : List Value} (hb : nj w g 28 cs) : nj w' g 28 cs := h.2 g _ cs hb aj aj
theorem o9.Sp {lo : Nat} {w w' : World} (h : o9 lo w w') {g : Nat} {cs : List Value} (hb : nj w g 119 cs) : nj w' g 119 cs := h.2 g _ cs hb aj aj
theorem uH (lo gw : Nat) (s : List UInt8) (p : Option Addr) (T : Option uE) (n : Int) (w : World) (hW : rU lo w gw s p T) (hlo : lo <= w.heap.size) (hl : s.length <= 10000000) :
  Calls prog 209 #[.pointer (some ⟨gw, 0, none⟩), .int .i64 2, .int .i64 n] w (yS lo gw p (.tuple #[]) (s ++ ny 2 n) T w) := GN lo gw s p T 2 n w hW hlo hl
theorem Mq (lo gw : Nat) (s : List UInt8) (p : Option Addr) (T : Option uE) (n : Int) (w : World) (hW : rU lo w gw s p T) (hlo : lo <= w.heap.size) (hl : s.length <= 10000000) :
  Calls prog 209 #[.pointer (some ⟨gw, 0, none⟩), .int .i64 4, .int .i64 n] w (yS lo gw p (.tuple #[]) (s ++ ny 4 n) T w) := GN lo gw s p T 4 n w hW hlo hl
theorem CI (lo gw : Nat) (st : WS) (p : Option Addr) (An : Option Addr) (cn : Nat) (q : Qn) (w0 w : World) (hW : rU lo w gw st.1 p st.2) (hN : rQ w0 An cn q.name) (h0 : w0.heap.size <= lo) (hb0 : Below w0.heap.size w0 w) (hlo : lo <= w.heap.size) (hl : st.1.length <= 5000000) (hf : sj st.2 900000) :
  Calls prog 169 #[.pointer (some ⟨gw, 0, none⟩), .agg (qC (.slice An q.name.length cn) q).toArray] w (yS lo gw p (.int .i64 (nH q.name)) (pJ st q).1 (pJ st q).2 w) := by
 have P := Hh (fun w' (b : Below w.heap.size w w') => DA lo gw st.1 p st.2 An cn q.name w' (hW.below b) ((hN.below hb0).below b) (Nat.le_trans hlo b.size) ak hf);have xl := qD st.2 (st.1.length : Int) q.name;have y1 := np 2 q.ty;obtain ⟨s', hs'⟩ : ∃ s', s' = (pJ st q).1 := eE;rw [<- hs'];have HS := Hh hs';clear hs';replace HS : Hid (s' = st.1 ++ og st.2 st.1.length q.name ++ ny 2 q.ty ++ ny 2 q.cl) := HS;have hT' : (pJ st q).2 = o8 st.2 st.1.length q.name := rfl;rw [hT'];clear hT';have N1 := Hh (fun w' (hW : rU lo w' gw (st.1 ++ og st.2 st.1.length q.name) p (o8 st.2 st.1.length q.name)) (hlo : lo <= w'.heap.size) => uH lo gw _ p _ q.ty w' hW hlo al);have N2 := Hh (fun w' (hW : rU lo w' gw (st.1 ++ og st.2 st.1.length q.name ++ ny 2 q.ty) p (o8 st.2 st.1.length q.name)) (hlo : lo <= w'.heap.size) => uH lo gw _ p _ q.cl w' hW hlo (by simp [y1]; omega));generalize st.1 ++ og st.2 st.1.length q.name ++ ny 2 q.ty ++ ny 2 q.cl = s3 at *;obtain rfl := HS.out;clear HS;generalize st.1 ++ og st.2 st.1.length q.name ++ ny 2 q.ty = s2 at *;generalize st.1 ++ og st.2 st.1.length q.name = s1 at *;generalize o8 st.2 st.1.length q.name = T1 at *;generalize nH q.name = e at *;unfold qC;generalize q.name.length = nl at *;generalize q.ty = ty at *;generalize q.cl = cl at *;clear hN hb0 hf hW xl y1;have B0 := nj.new w 28 [.slice An nl cn, .int .i64 ty, .int .i64 cl];have HB0 : Below w.heap.size w (w.alloc (.cells #[.slice An nl cn, .int .i64 ty, .int .i64 cl] 28)) := eC;have c0 := B0.nf 0 rfl;go_enter func169, ntmps169;go_wp2_with fail;refine (P.out _ HB0).mono ?_;rintro _ w1 ⟨rfl, W1, K1⟩;have B1 := K1.VN B0;have K1' : o9 lo w w1 := (o9.xK HB0 hlo).trans K1;clear c0 P K1 B0 HB0;have c1 := B1.nf 1 rfl;go_wp2_with fail;refine (N1.out _ W1 (K1'.size hlo)).mono ?_;rintro _ w2 ⟨rfl, W2, K2⟩;have B2 := K2.VN B1;have K2' : o9 lo w w2 := K1'.trans K2;clear c1 N1 K2 B1 K1' W1;have c2 := B2.nf 2 rfl;go_wp2_with fail;refine (N2.out _ W2 (K2'.size hlo)).mono ?_;rintro _ w3 ⟨rfl, W3, K3⟩;have K3' : o9 lo w w3 := K2'.trans K3;clear c2 N2 K3 B2 K2' W2;go_wp2_with fail;go_ret;exact ⟨rfl, W3, K3'⟩
theorem GP (lo gw : Nat) (s : List UInt8) (p : Option Addr) (T : Option uE) (e : Int) (w : World) (hW : rU lo w gw s p T) (hl : s.length <= 10000000) :
  Calls prog 168 #[.pointer (some ⟨gw, 0, none⟩), .int .i64 e] w (rN (.int .i64 (if e = 0 /\ 65535 < s.length then 3 else e)) w) := by
 obtain ⟨A, c, h1, h2, h3, h4⟩ := hW;have c0 := h2.nf 0 rfl;by_cases he : e = 0
 ·
  have e1 : (e == 0) = true := fD;by_cases hs : 65535 < s.length
  ·have e2 : (65535 : Int) < s.length := ak;rw [if_pos ⟨he, hs⟩];go_enter func168, ntmps168;exact j2
  ·have e2 : ¬ (65535 : Int) < s.length := ak;rw [if_neg (fun h => hs h.2)];go_enter func168, ntmps168;exact j2
 ·have e1 : (e == 0) = false := fD;rw [if_neg (fun h => he h.1)];clear he;go_enter func168, ntmps168;exact j2
theorem DB {r : RR} (hw : r.wf) (hc : nU r = 0) (T : Option uE) (at_ : Int) : (sk T at_ r).length <= 70000 := by
 have hE := (zq hc).2;have h16 := hw.1;have h5 := hw.2;unfold sk;unfold tG at hE;split
 ·simp; omega
 split
 ·omega
 split
 ·have := qD T at_ r.tg; omega
 split
 ·have := qD none 0 r.tg;have e : og none 0 r.tg = rR r.tg := rfl;rw [e] at this;simp [np]; omega
 split
 ·
  have a1 := qD T at_ r.tg;have a2 := qD (o8 T at_ r.tg) (at_ + (og T at_ r.tg).length) r.ml;have a3 : (r.nums.flatMap (ny 4)).length = 20 := by
   match r.nums, h5 with
   | [a, b, c, d, e], _ => simp [np]
  simp only [List.length_append];omega
 ·
  rw [if_neg ‹_›, if_neg ‹_›, if_neg ‹_›, if_neg ‹_›, if_neg ‹_›] at hE;by_cases h : 65535 < r.raw.length
  ·rw [if_pos h] at hE; cases hE
  ·omega
set_option maxHeartbeats 2000000 in
theorem vN (lo gw : Nat) (st : WS) (p : Option Addr) (cs : List Value) (r : RR) (w0 w : World) (hW : rU lo w gw st.1 p st.2) (hR : sH w0 cs r) (h0 : w0.heap.size <= lo) (hb0 : Below w0.heap.size w0 w) (hlo : lo <= w.heap.size) (hl : st.1.length <= 500000) (hf : sj st.2 700000) (hc : nU r = 0) :
  Calls prog 171 #[.pointer (some ⟨gw, 0, none⟩), .agg cs.toArray] w (yS lo gw p (.int .i64 0) (nP st r).1 (nP st r).2 w) := by
 have hname := (zq hc).1;obtain ⟨An, cn, L0, hN, hwf, hcl⟩ : ∃ An cn, cs[0]? = some (.slice An r.name.length cn) /\ rQ w0 An cn r.name /\ r.wf /\ cs.length = 33 := by obtain ⟨An, cn, At, ct, Am, cm, rfl, hr, hN, _⟩ := hR; exact ⟨An, cn, rfl, hN, hr, pn hr⟩
 have L1 : cs[1]? = some (.int .i64 r.ty) := fL;have L2 : cs[2]? = some (.int .i64 r.cl) := fL;have L3 : cs[3]? = some (.int .i64 r.ttl) := fL;have P := Hh (fun w' (b : Below w.heap.size w w') => DA lo gw st.1 p st.2 An cn r.name w' (hW.below b) ((hN.below hb0).below b) (Nat.le_trans hlo b.size) ak (fun T' h => Nat.le_trans (hf T' h) ak));rw [hname] at P;have xl := qD st.2 (st.1.length : Int) r.name;have y1 := np 2 r.ty;have y2 := np 2 r.cl;have y3 := np 4 r.ttl;have hfT : sj (ud st r) 800000 := fun T' h => Nat.le_trans ((hf.put _ _) T' h) ak
 have hsl : (r8 st r).length <= 501000 := by simp only [r8, List.length_append]; omega
 have hdl := DB hwf hc (ud st r) ((r8 st r).length + 2);have D := Hh (fun w' (b : Below lo w w') (hlo' : lo <= w'.heap.size) (hT' : uW lo w' p (ud st r)) => Pb lo cs r ((r8 st r).length + 2) p (ud st r) w0 w' hR h0 (hb0.trans (b.mono h0)) hlo' hT' hfT ak ak);have er1 : GF (ud st r) ((r8 st r).length + 2) r = sV st r := by unfold GF; rw [if_pos hc]; rfl
 have er2 : GH (ud st r) ((r8 st r).length + 2) r = (nP st r).2 := by unfold GH; rw [if_pos hc]; rfl
 rw [er1, er2, hc] at D;replace hdl : (sV st r).length <= 70000 := hdl;have hs' : (nP st r).1 = r8 st r ++ ny 2 (sV st r).length ++ sV st r := rfl;have y4 := np 2 ((sV st r).length : Int);rw [hs'];have N1 := Hh (fun w' (hW : rU lo w' gw (st.1 ++ og st.2 st.1.length r.name) p (ud st r)) (hlo : lo <= w'.heap.size) => uH lo gw _ p _ r.ty w' hW hlo al);have N2 := Hh (fun w' (hW : rU lo w' gw (st.1 ++ og st.2 st.1.length r.name ++ ny 2 r.ty) p (ud st r)) (hlo : lo <= w'.heap.size) => uH lo gw _ p _ r.cl w' hW hlo al);have N3 := Hh (fun w' (hW : rU lo w' gw (st.1 ++ og st.2 st.1.length r.name ++ ny 2 r.ty ++ ny 2 r.cl) p (ud st r)) (hlo : lo <= w'.heap.size) => Mq lo gw _ p _ r.ttl w' hW hlo al);have N4 := Hh (fun w' (hW : rU lo w' gw (r8 st r) p (nP st r).2) (hlo : lo <= w'.heap.size) => uH lo gw _ p _ ((sV st r).length : Int) w' hW hlo ak);have hs4l : (r8 st r ++ ny 2 (sV st r).length).length <= 600000 := cf;clear hs' er1 er2 hfT hR hf hN hb0 hW hwf hc;change Hid (∀ w' : World, rU lo w' gw (st.1 ++ og st.2 st.1.length r.name ++ ny 2 r.ty ++ ny 2 r.cl) p (ud st r) -> lo <= w'.heap.size -> Calls prog 209 #[.pointer (some ⟨gw, 0, none⟩), .int .i64 4, .int .i64 r.ttl] w' (yS lo gw p (.tuple #[]) (r8 st r) (ud st r) w')) at N3;change Hid (∀ w' : World, Below w.heap.size w w' -> Calls prog 208 #[.pointer (some ⟨gw, 0, none⟩), .slice An r.name.length cn] w' (yS lo gw p (.int .i64 0) (st.1 ++ og st.2 st.1.length r.name) (ud st r) w')) at P;generalize (nP st r).2 = T2 at *;generalize sV st r = d at *;generalize r8 st r = s4 at *;generalize ud st r = T1 at *;generalize st.1 ++ og st.2 st.1.length r.name ++ ny 2 r.ty ++ ny 2 r.cl = s3 at *;generalize st.1 ++ og st.2 st.1.length r.name ++ ny 2 r.ty = s2 at *;generalize st.1 ++ og st.2 st.1.length r.name = s1 at *;generalize r.name.length = nl at *;generalize r.ty = ty at *;generalize r.cl = cl at *;generalize r.ttl = ttl at *;clear xl y1 y2 y3;have B0 := nj.new w 119 cs;have HB0 : Below w.heap.size w (w.alloc (.cells cs.toArray 119)) := eC;have c0 := B0.nf 0 L0;go_enter func171, ntmps171;go_wp2_with fail;refine (P.out _ HB0).mono ?_;rintro _ w1 ⟨rfl, W1, K1⟩;have B1 := K1.Sp B0;have K1' : o9 lo w w1 := (o9.xK HB0 hlo).trans K1;clear c0 P K1 B0 HB0 L0;have c1 := B1.nf 1 L1;go_wp2_with fail;refine (N1.out _ W1 (K1'.size hlo)).mono ?_;rintro _ w2 ⟨rfl, W2, K2⟩;have B2 := K2.Sp B1;have K2' : o9 lo w w2 := K1'.trans K2;clear c1 N1 K2 B1 K1' W1 L1;have c2 := B2.nf 2 L2;go_wp2_with fail;refine (N2.out _ W2 (K2'.size hlo)).mono ?_;rintro _ w3 ⟨rfl, W3, K3⟩;have B3 := K3.Sp B2;have K3' : o9 lo w w3 := K2'.trans K3;clear c2 N2 K3 B2 K2' W2 L2;have c3 := B3.nf 3 L3;go_wp2_with fail;refine (N3.out _ W3 (K3'.size hlo)).mono ?_;rintro _ w4 ⟨rfl, W4, K4⟩;have B4 := K4.Sp B3;have K4' : o9 lo w w4 := K3'.trans K4;have hlo4 := K4'.size hlo;clear c3 N3 K4 B3 K3' W3 L3;obtain ⟨A, c, h1, h2, h3, h4⟩ := W4;go_wp2_with fail;have hw1 : IntKind.i64.wrap ((s4.length : Int) + 2) = (s4.length : Int) + 2 := iI;refine wp_region_held_drew (S := fun W => nj W gw 277 [.slice A s4.length c, .pointer p] /\ nj W w.heap.size 119 cs) (by kernel_rfl) ⟨h2.drew, B4.drew⟩ (fun hS => ?_);have hD : Below w4.heap.size w4 w4.drew := fw;refine qf 0 (some 28) 119 (.tmp 3) ⟨w.heap.size, 0, none⟩ rfl rfl rfl rfl (by kernel_rfl) (by kernel_rfl) (by kernel_rfl) (fun _ _ _ h => h) (by kernel_rfl) (fun W hW => hW.2.pF 119 0 33 ak _ underlying119 rfl oG cs (qj ak)) hS ?_;simp only [Act.put, nB, nC, nD]
 (refine nF 1 (some 29) rfl rfl (by kernel_rfl) (by kernel_rfl) (by kernel_rfl) (fun _ _ _ h => h) (by kernel_rfl) (fun W hW => rfl) hS ?_; simp only [Act.put, nB, nC, nD])
 (refine nF 2 (some 30) rfl rfl (by kernel_rfl) (by kernel_rfl) (by kernel_rfl) (fun _ _ _ h => h) (by kernel_rfl) (fun W hW => rfl) hS ?_; simp only [Act.put, nB, nC, nD])
 (refine nF 3 (some 31) rfl rfl (by kernel_rfl) (by kernel_rfl) (by kernel_rfl) (fun _ _ _ h => h) (by kernel_rfl) (fun W hW => rfl) hS ?_; simp only [Act.put, nB, nC, nD])
 refine qf 4 (some 32) 145 (.tmp 31) ⟨gw, 0, none⟩ rfl rfl rfl rfl (by kernel_rfl) (by kernel_rfl) (by kernel_rfl) (fun _ _ _ h => h) (by kernel_rfl) (fun W hW => nN underlying145 rfl (hW.1.nf 0 rfl)) hS ?_;simp only [Act.put, nB, nC, nD];refine nF 5 (some 33) (v := .int .i64 (s4.length : Int)) rfl rfl (by kernel_rfl) (by kernel_rfl) (by kernel_rfl) (fun _ _ _ h => h) (by kernel_rfl) (fun W hW => by go_simp) hS ?_;simp only [Act.put, nB, nC, nD];refine nF 6 (some 34) (v := .int .i64 ((s4.length : Int) + 2)) rfl rfl (by kernel_rfl) (by kernel_rfl) (by kernel_rfl) (fun _ _ _ h => h) (by kernel_rfl) (fun W hW => by go_simp) hS ?_;simp only [Act.put, nB, nC, nD]
 (refine nF 7 (some 35) rfl rfl (by kernel_rfl) (by kernel_rfl) (by kernel_rfl) (fun _ _ _ h => h) (by kernel_rfl) (fun W hW => rfl) hS ?_; simp only [Act.put, nB, nC, nD])
 (refine nF 8 (some 36) rfl rfl (by kernel_rfl) (by kernel_rfl) (by kernel_rfl) (fun _ _ _ h => h) (by kernel_rfl) (fun W hW => rfl) hS ?_; simp only [Act.put, nB, nC, nD])
 (refine nF 9 (some 37) rfl rfl (by kernel_rfl) (by kernel_rfl) (by kernel_rfl) (fun _ _ _ h => h) (by kernel_rfl) (fun W hW => rfl) hS ?_; simp only [Act.put, nB, nC, nD])
 refine qf 10 (some 38) 275 (.tmp 37) ⟨gw, 1, none⟩ rfl rfl rfl rfl (by kernel_rfl) (by kernel_rfl) (by kernel_rfl) (fun _ _ _ h => h) (by kernel_rfl) (fun W hW => nN underlying275 rfl (hW.1.nf 1 rfl)) hS ?_;simp only [Act.put, nB, nC, nD];refine oY 11 (some 39) 210 #[.agg cs.toArray, .int .i64 ((s4.length : Int) + 2), .pointer p] (by kernel_rfl) rfl rfl (by kernel_rfl) aS (D.out _ (K4'.1.trans (hD.mono hlo4)) (Nat.le_trans hlo4 hD.size) (h4.below hD)) ?_;rintro _ w5 ⟨rfl, hT5, hK5⟩;have B5 := hK5.oL h2.drew;have O5 : sU w5 lo (.slice A s4.length c) s4 := by
  rcases h3 with hn | ⟨g, cap, cur, fz, hv, hB, hh, rest⟩
  ·exact .inl hn
  ·exact .inr ⟨g, cap, cur, fz, hv, hB, hK5.2 g _ cur fz hh, rest⟩
 have K5 : o9 lo w w5 := (K4'.trans (o9.xK hD hlo4)).trans (o9.Pm hK5);have hlo5 := K5.size hlo;refine ⟨_, rfl, ⟨B5, hK5.oL B4.drew⟩, ?_⟩;replace hS : nj w5 gw 277 [.slice A s4.length c, .pointer p] /\ nj w5 w.heap.size 119 cs := ⟨B5, hK5.oL B4.drew⟩;clear hK5 D hD h2 h3 h4 B4 K4' hlo4;simp only [Act.put, nB, nC, nD]
 (refine nF 12 (some 27) rfl rfl (by kernel_rfl) (by kernel_rfl) (by kernel_rfl) (fun _ _ _ h => h) (by kernel_rfl) (fun W hW => rfl) hS ?_; simp only [Act.put, nB, nC, nD])
 (refine nF 13 (some 40) rfl rfl (by kernel_rfl) (by kernel_rfl) (by kernel_rfl) (fun _ _ _ h => h) (by kernel_rfl) (fun W hW => rfl) hS ?_; simp only [Act.put, nB, nC, nD])
 (refine nF 14 (some 41) rfl rfl (by kernel_rfl) (by kernel_rfl) (by kernel_rfl) (fun _ _ _ h => h) (by kernel_rfl) (fun W hW => rfl) hS ?_; simp only [Act.put, nB, nC, nD])
 refine nF 15 (some 6) (v := .string (bs d)) rfl rfl (by kernel_rfl) (by kernel_rfl) (by kernel_rfl) (fun _ _ _ h => h) (by kernel_rfl) (fun W hW => rfl) hS ?_;simp only [Act.put, nB, nC, nD];refine nF 16 (some 7) (v := .int .i64 0) rfl rfl (by kernel_rfl) (by kernel_rfl) (by kernel_rfl) (fun _ _ _ h => h) (by kernel_rfl) (fun W hW => rfl) hS ?_;simp only [Act.put, nB, nC, nD];refine wpAnyH_done (by kernel_rfl) ?_ _;clear hS;have W5 : rU lo w5 gw s4 p T2 := ⟨A, c, h1, B5, O5, hT5⟩;clear B5 O5 hT5 hw1;go_wp2_with fail;refine (N4.out _ W5 hlo5).mono ?_;rintro _ w6 ⟨rfl, W6, K6⟩;have K6' := K5.trans K6;have hlo6 := K6'.size hlo;clear K6 K5 W5 N4 hlo5;generalize s4 ++ ny 2 (d.length : Int) = s5 at *;obtain ⟨A, c, h1, h2, h3, h4⟩ := W6;have c0 := h2.nf 0 rfl;go_wp2_with (at_builtin; go_must (refine xL _ rfl (.tmp 50) (.tmp 51) rfl lo _ s5 d rfl h3 hlo6 rfl ak ?_));intro A' c' w7 k1 g1;have B7 := h2.grown g1 (h3.ne h2 aj);clear c0;go_wp2_with (refine nh (.store 145 (.tmp 54) (.tmp 52)) rfl (af rfl gw 0 _ B7 ag uZ ?_));intro w8 hb8 hg8 hs8;rw [<- List.length_append] at hb8 k1;obtain ⟨R1, R2⟩ := ER (x := d) hlo6 h1 h2 h3 h4 k1 g1 hb8 hg8;have R3 := K6'.trans R2;clear hb8 hg8 hs8 B7 g1 k1 R2 h2 h3 h4;go_wp2_with fail;go_ret;exact ⟨rfl, R1, R3⟩
end Go.Proofs.YthnbcmlnpdabhaaGreat
