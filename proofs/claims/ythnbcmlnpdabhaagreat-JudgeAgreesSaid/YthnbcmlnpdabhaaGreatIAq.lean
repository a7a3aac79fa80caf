/-
  What stays when the blocks of exchanges, dials and lots are written: a frame by blocks and their types.
-/
import Derived.Test.YthnbcmlnpdabhaaGreatHGq
namespace Go.Proofs.YthnbcmlnpdabhaaGreat
open _root_.Go.Proofs.Tryz
open Go.RowKit
set_option maxRecDepth 100000
set_option linter.unusedVariables false
set_option linter.unusedSimpArgs false
def Hj (t : TypeId) : Prop := t = 152 \/ t = 177 \/ t = 180 \/ t = 86 \/ t = 163 \/ t = 90 \/ t = 97 \/ t = 185 \/ t = 200 \/ t = 197 \/ t = 76 \/ t = 999999
def WZ (w : World) (i : Nat) : Prop := ∃ t cs, nj w i t cs /\ Hj t
structure Fr (S : Nat -> Prop) (w w' : World) : Prop where
 os : w'.os = w.os
 tape : w'.tape = w.tape
 output : w'.output = w.output
 size : w.heap.size <= w'.heap.size
 block : ∀ i, i < w.heap.size -> w'.heap[i]? = w.heap[i]? \/ (S i /\ WZ w i)
theorem Fr.trans {S S' : Nat -> Prop} {a b c : World} (h : Fr S a b) (k : Fr S' b c) (hS : ∀ i, i < a.heap.size -> S' i -> S i) : Fr S a c :=
 ⟨k.os.trans h.os, k.tape.trans h.tape, k.output.trans h.output, Nat.le_trans h.size k.size, fun i hi => by
  rcases h.block i hi with e | e
  ·
   rcases k.block i (Nat.lt_of_lt_of_le hi h.size) with e' | ⟨e', t, cs, hb, ht⟩
   ·exact .inl (e'.trans e)
   ·exact .inr ⟨hS i hi e', t, cs, e.symm.trans hb, ht⟩
  ·
   exact .inr e⟩
theorem Fr.mono {S S' : Nat -> Prop} {a b : World} (h : Fr S a b) (hS : ∀ i, S i -> S' i) : Fr S' a b := ⟨h.os, h.tape, h.output, h.size, fun i hi => (h.block i hi).imp id (fun ⟨x, y⟩ => ⟨hS i x, y⟩)⟩
theorem Fr.below {S : Nat -> Prop} {w w' : World} (h : Below w.heap.size w w') : Fr S w w' := ⟨h.os, h.tape, h.output, h.size, fun i hi => .inl (h.block i hi)⟩
theorem Fr.grown {S : Nat -> Prop} {w w' : World} {g : Nat} {t : TypeId} {cs : List Value} (h : w.grownBy w' (some g)) (hb : nj w g t cs) (ht : Hj t) (hg : S g) : Fr S w w' := ⟨h.os, h.tape, h.output, h.size, fun i hi => by
 by_cases e : i = g
 ·subst e; exact .inr ⟨hg, t, cs, hb, ht⟩
 ·
  exact .inl (h.block i hi (by simpa using e))⟩
theorem Fr.toBelow {S : Nat -> Prop} {B : Nat} {a w w' : World} (h : Fr S w w') (hb : Below B a w) (hB : B <= w.heap.size) (hS : ∀ i, i < B -> ¬ S i) : Below B a w' :=
 ⟨h.os.trans hb.os, h.tape.trans hb.tape, h.output.trans hb.output, Nat.le_trans hb.size h.size, fun i hi => by
  rcases h.block i (Nat.lt_of_lt_of_le hi hB) with e | e
  ·exact e.trans (hb.block i hi)
  ·
   exact absurd e.1 (hS i hi)⟩
theorem Fr.oL {S : Nat -> Prop} {w w' : World} {g : Nat} {t : TypeId} {cs : List Value} (h : Fr S w w') (hb : nj w g t cs) (hg : ¬ S g) : nj w' g t cs := by
 rcases h.block g hb.lt with e | e
 ·exact e.trans hb
 ·exact absurd e.1 hg
theorem Fr.u9 {S : Nat -> Prop} {w w' : World} {g : Nat} {t : TypeId} {cs : List Value} (h : Fr S w w') (hb : nj w g t cs) (ht : ¬ Hj t) : nj w' g t cs := by
 rcases h.block g hb.lt with e | ⟨_, t', cs', hb', ht'⟩
 ·exact e.trans hb
 ·unfold nj at hb hb';rw [hb] at hb';injection hb' with hb';injection hb' with _ e;exact absurd (e ▸ ht') ht
theorem Fr.own {S : Nat -> Prop} {w w' : World} {B : Nat} {e : TypeId} {s n : Nat} {v : Value} {xs : List Value} (h : Fr S w w') (ho : w.ownsRow B e s v n xs) (he : ¬ Hj e) : w'.ownsRow B e s v n xs := by
 obtain ⟨h0, ho⟩ := ho;refine ⟨h0, ?_⟩;rcases ho with ho | ⟨g, cap, cur, hv, hB, hg, r⟩
 ·exact .inl ho
 ·exact .inr ⟨g, cap, cur, hv, hB, h.u9 (g := g) (t := e) (cs := cur.toList) hg he, r⟩
theorem Hk {P : Program} (w : World) (t ty : TypeId) (e : TypeId) (z : Value) (size bytes : Nat) (ht : P.underlying t = some (.slice e)) (hi : (P.info? e).map (fun i => (i.zero, i.size, i.bytes)) = some (some z, size, bytes)) (hzs : z.cells.size = size) (hsz : 0 < size)
  (B : Nat) (v : Value) (n : Nat) (xs : List Value) (hown : w.ownsRow B e size v n xs) (hB : B <= w.heap.size) (A : Option Addr) (m c : Nat) (news : List Value) (hn : 0 < m -> ∃ b off, A = some ⟨b, off, none⟩ /\ w.rangeAt b off news) (hl : news.length = m * size) (h1 : ∀ u ∈ news, u.oneCell' = true) (h63 : n + m <= maxLen) (hbytes : (n + m) * bytes <= 140737488355328) :
  ∃ v' w', (Builtin.append_ #[t, t] ty #[v, .slice A m c]).run P w = .ok v' w' /\ w'.ownsRow B e size v' (n + m) (xs ++ news) /\ w.grownBy w' v.ownBlock := by
 obtain ⟨i, hi, hz, hsize, hby⟩ := info_parts hi;by_cases hm : 0 < m
 ·
  obtain ⟨b, off, rfl, hr⟩ := hn hm;obtain ⟨v', w', hr, h2, h3, _, h5⟩ := run_append_own_at (P := P) w B t ty e i _ size bytes ht hi hz hsize hby hzs ak v n xs hown ⟨b, off, none⟩ m c news hl (fun j u hu => by
   have hadd : (⟨b, off, none⟩ : Addr).add j = ⟨b, off + j, none⟩ := eU;rw [hadd]; exact hr j u hu) h1 h63 hbytes hB
  exact mK
 ·
  obtain rfl : m = 0 := ak;have hnil : news = [] := ff;subst hnil;have hv : ∃ A' c', v = .slice A' n c' /\ n <= c' := by exact kC
  obtain ⟨A', c', rfl, hcap⟩ := hv;refine ⟨.slice A' n c', w, ?_, ej, World.grownBy.refl _ _⟩;cases A with
  | none => cases A' <;> simp [Builtin.append_, run_underlying ht, sizeOf, typeInfo, hi, hsize, Builtin.lenOf, hcap, Builtin.firstCells, storeCells]
  | some ad => have hl0 : (loadCells ad 0).run P w = .ok #[] w := rfl;cases A' <;> simp [hl0, Builtin.append_, run_underlying ht, sizeOf, typeInfo, hi, hsize, Builtin.lenOf, hcap, Builtin.firstCells, storeCells]
theorem sY {P : Program} (w : World) {ops : Array Oper} {rest : List Oper} {o : Oper} {a : Act} {Q : Exit -> Act -> World -> Prop} (hgd : o.guard = none) (s x : Operand) (t : TypeId)
  (ho : o.op = .call { callee := .builtin .append, args := #[s, x], argTypes := #[t, t] })
  (e : TypeId) (z : Value) (size bytes : Nat) (ht : P.underlying t = some (.slice e)) (hi : (P.info? e).map (fun i => (i.zero, i.size, i.bytes)) = some (some z, size, bytes)) (hzs : z.cells.size = size) (hsz : 0 < size)
  (B : Nat) (v : Value) (n : Nat) (xs : List Value) (hs : a.eval s = v) (hown : w.ownsRow B e size v n xs) (hB : B <= w.heap.size) (A : Option Addr) (m c : Nat) (news : List Value) (hx : a.eval x = .slice A m c)
  (hn : 0 < m -> ∃ b off, A = some ⟨b, off, none⟩ /\ w.rangeAt b off news) (hl : news.length = m * size) (h1 : ∀ u ∈ news, u.oneCell' = true) (h63 : n + m <= maxLen) (hbytes : (n + m) * bytes <= 140737488355328) (k : Nat) (hk : k = n + m)
  (h : ∀ A' c' w', w'.ownsRow B e size (.slice A' k c') k (xs ++ news) -> w.grownBy w' v.ownBlock -> wpList P ops Q rest (a.put o.dst (.slice A' k c')) w') :
  wpList P ops Q (o :: rest) a w := by
 subst hk;refine wpList_plain hgd fun K hK => ?_
 obtain ⟨v', w', hr, h2, h3⟩ := Hk w t o.type e z size bytes ht hi hzs hsz B v n xs hown hB A m c news hn hl h1 h63 hbytes;exact jW
theorem yD {w : World} {B : Nat} {e : TypeId} {s : Nat} {A : Option Addr} {n c : Nat} {xs : List Value} (h : w.ownsRow B e s (.slice A n c) n xs) (hn : 0 < n) (hl : xs.length = n * s) : ∃ g L, A = some ⟨g, 0, none⟩ /\ nj w g e L /\ L.take (n * s) = xs /\ B <= g := by
 rcases h.2 with ⟨_, h0⟩ | ⟨g, cap, cur, hv, hB, hg, hc, hm, hs, ht⟩
 ·omega
 ·injection hv with h1 h2 h3;exact ⟨g, cur.toList, h1, hg, ht, hB⟩
def Vm {α : Type} (w : World) (k : Nat) (R : List Value -> α -> Prop) (A : Option Addr) (l : List α) : Prop := 0 < l.length -> ∃ b off, A = some ⟨b, off, none⟩ /\ b < w.heap.size /\ ∀ i (hi : i < l.length), ∃ cs, w.rangeAt b (off + i * k) cs /\ R cs l[i]
theorem Vm.mono {α : Type} {w w' : World} {k : Nat} {R R' : List Value -> α -> Prop} {A : Option Addr} {l : List α} (h : Vm w k R A l) (hb : Below w.heap.size w w') (hm : ∀ cs x, R cs x -> R' cs x) : Vm w' k R' A l := by
 intro hp;obtain ⟨b, off, h1, h2, h3⟩ := h hp;refine ⟨b, off, h1, Nat.lt_of_lt_of_le h2 hb.size, fun i hi => ?_⟩;obtain ⟨cs, h4, h5⟩ := h3 i hi;exact ⟨cs, nO h4 hb h2, hm _ _ h5⟩
theorem nZ.below {α : Type} {w w' : World} {B : Nat} {e : TypeId} {k : Nat} {R R' : List Value -> α -> Prop} {v : Value} {l : List α} (h : nZ w B e k R v l) (hb : Below w.heap.size w w') (hm : ∀ cs x, R cs x -> R' cs x) : nZ w' B e k R' v l := h.stays (fun _ x => pC x hb) hm
theorem nZ.nil {α : Type} (w : World) (B : Nat) (e : TypeId) (k : Nat) (R : List Value -> α -> Prop) : nZ w B e k R nA [] := ⟨[], World.ownsRow_nil _ _ _ _, trivial⟩
theorem nZ.ne {α : Type} {w : World} {B : Nat} {e : TypeId} {k : Nat} {R : List Value -> α -> Prop} {v : Value} {l : List α} (h : nZ w B e k R v l) {g : Nat} (hg : w.heap.size <= g) : v.ownBlock ≠ some g := by
 obtain ⟨_, ho, _⟩ := h;intro e;have := (ho.lt g e).2;omega
theorem nZ.base {α : Type} {w : World} {B : Nat} {e : TypeId} {k : Nat} {R : List Value -> α -> Prop} {v : Value} {l : List α} (h : nZ w B e k R v l) : ∀ g, v.ownBlock = some g -> B <= g := by
 obtain ⟨_, ho, _⟩ := h;exact sf ho
theorem nZ.oL {α : Type} {w w' : World} {B g : Nat} {e t : TypeId} {k : Nat} {R : List Value -> α -> Prop} {v : Value} {l : List α} {cs : List Value} (h : nZ w B e k R v l) (hg : w.grownBy w' (some g)) (hb : nj w g t cs) (ht : t ≠ e) : nZ w' B e k R v l := h.stays (fun _ x => sQ x hg hb ht) (fun _ _ x => x)
theorem pD (w : World) (g i : Nat) (u : Value) : w.grownBy (w.setCell ⟨g, i, none⟩ u) (some g) := nT (World.grownBy.refl _ _) i u
theorem nZ.zero {α : Type} {w : World} {B : Nat} {e : TypeId} {k : Nat} {R : List Value -> α -> Prop} {v : Value} {l : List α} (h : nZ w B e k R v l) : nZ w 0 e k R v l := by
 obtain ⟨css, h1, h2⟩ := h;exact ⟨css, sX h1, h2⟩
theorem nZ.Mv {α : Type} {w : World} {B : Nat} {e : TypeId} {k : Nat} {R : List Value -> α -> Prop} {v v' : Value} {l : List α} {css : List (List Value)} {cs : List Value} {x : α} (h : tq R css l) (ho : w.ownsRow B e k v' (l.length + 1) (css.flatten ++ cs)) (hx : R cs x) : nZ w B e k R v' (l ++ [x]) := by
 refine ⟨css ++ [cs], ?_, h.Mv hx⟩;rw [List.length_append, List.length_singleton, List.flatten_append];simpa using ho
theorem oH {w : World} {g n : Nat} {t : TypeId} {L M : List Value} (h : nj w g t (L ++ M.drop n)) (hM : M.length <= n) : nj w g t L := by
 exact lY
theorem EZ {P : Program} (w : World) (t e : TypeId) (z : Value) (n bytes : Nat) (ht : P.underlying t = some (.slice e)) (hi : (P.info? e).map (fun i => (i.zero, i.size, i.bytes)) = some (some z, n, bytes)) (hn : 0 < n) (hn2 : n <= 1000) (cs : List Value) (hl : cs.length = n) : (Instr.buildSlice t 1 #[(0, .agg cs.toArray)]).run P w = .ok (.slice (some ⟨w.heap.size, 0, none⟩) 1 1) (w.alloc (.cells cs.toArray e)) := by
 obtain ⟨i, hi, hz, hsize, hby⟩ := info_parts hi;refine run_buildSlice w t e 1 _ cs.toArray i _ ht hi hz (by rw [hsize]; omega) (by rw [hsize]; omega) ?_;rw [hsize];have := xW n ((Array.range (1 * n)).map (z.cells[· % z.cells.size]!)).toList cs hl ag;exact lR
theorem xj {P : Program} {ops : Array Oper} {rest : List Oper} {o : Oper} {a : Act} {w : World} {Q : Exit -> Act -> World -> Prop} (hgd : o.guard = none) (t e : TypeId) (z : Value) (n bytes : Nat) (ht : P.underlying t = some (.slice e)) (hi : (P.info? e).map (fun i => (i.zero, i.size, i.bytes)) = some (some z, n, bytes)) (hn : 0 < n) (hn2 : n <= 1000)
  (x : Operand) (ho : o.op = .buildSlice t 1 #[(0, x)]) (cs : List Value) (hx : a.eval x = .agg cs.toArray) (hl : cs.length = n)
  (h : wpList P ops Q rest (a.put o.dst (.slice (some ⟨w.heap.size, 0, none⟩) 1 1)) (w.alloc (.cells cs.toArray e))) : wpList P ops Q (o :: rest) a w := by
 refine wpList_plain hgd fun K hK => ?_
 unfold Oper.wp execOp;simp only [ho, Sem.run_bind, Sem.run_pure, Result.andThen_ok, List.map_toArray, List.map_cons, List.map_nil, hx, EZ w t e z n bytes ht hi hn hn2 cs hl];exact hK _ _ h
theorem sZ {P : Program} (w : World) {ops : Array Oper} {rest : List Oper} {o : Oper} {a : Act} {Q : Exit -> Act -> World -> Prop} (hgd : o.guard = none) (s x : Operand) (t : TypeId)
  (ho : o.op = .call { callee := .builtin .append, args := #[s, x], argTypes := #[t, t] })
  (e : TypeId) (z : Value) (size bytes : Nat) (ht : P.underlying t = some (.slice e)) (hi : (P.info? e).map (fun i => (i.zero, i.size, i.bytes)) = some (some z, size, bytes)) (hzs : z.cells.size = size) (hsz : 0 < size)
  {α : Type} {R : List Value -> α -> Prop} (B : Nat) (v : Value) (l : List α) (hs : a.eval s = v) (h : nZ w B e size R v l) (hB : B <= w.heap.size) (g : Nat) (cs : List Value) (r : α) (hx : a.eval x = .slice (some ⟨g, 0, none⟩) 1 1) (hb : nj w g e cs) (hg : v.ownBlock ≠ some g)
  (hl : cs.length = size) (h1 : ∀ u ∈ cs, u.oneCell' = true) (hr : R cs r) (h63 : l.length + 1 <= maxLen) (hbytes : (l.length + 1) * bytes <= 140737488355328)
  (hk : ∀ v' w', nZ w' B e size R v' (l ++ [r]) -> w.grownBy w' v.ownBlock -> wpList P ops Q rest (a.put o.dst v') w') :
  wpList P ops Q (o :: rest) a w := by
 obtain ⟨css, hown, hE⟩ := h;refine sY w hgd s x t ho e z size bytes ht hi hzs hsz B v l.length css.flatten hs hown hB (some ⟨g, 0, none⟩) 1 1 cs hx (fun _ => ⟨g, 0, rfl, fun j u hu => by rw [Nat.zero_add]; exact hb.nf j hu⟩) ak h1 h63 hbytes _ rfl ?_;intro A' c' w' ho' hg';exact hk _ w' (nZ.Mv (v := v) hE ho' hr) hg'
theorem nZ.one {α : Type} {R : List Value -> α -> Prop} {w : World} {g : Nat} {e : TypeId} (k : Nat) {cs : List Value} {x : α} (hb : nj w g e cs) (hl : cs.length = k) (hr : R cs x) : nZ w 0 e k R (.slice (some ⟨g, 0, none⟩) 1 1) [x] := by
 refine ⟨[cs], ⟨by simp [hl], .inr ⟨g, 1, cs.toArray, rfl, Nat.zero_le _, hb, Nat.le_refl _, by simp [maxLen], by simp [hl], ?_⟩⟩, hr, trivial⟩;exact lH
theorem xm {P : Program} {ops : Array Oper} {rest : List Oper} {o : Oper} {a : Act} {w : World} {Q : Exit -> Act -> World -> Prop} (hgd : o.guard = none) (t e : TypeId) (z : Value) (n bytes : Nat) (ht : P.underlying t = some (.slice e)) (hi : (P.info? e).map (fun i => (i.zero, i.size, i.bytes)) = some (some z, n, bytes)) (hn : 0 < n) (hn2 : n <= 1000)
  (x : Operand) (ho : o.op = .buildSlice t 1 #[(0, x)]) (cs : List Value) (hx : a.eval x = .agg cs.toArray) (hl : cs.length = n)
  (h : ∀ w', nj w' w.heap.size e cs -> Below w.heap.size w w' -> wpList P ops Q rest (a.put o.dst (.slice (some ⟨w.heap.size, 0, none⟩) 1 1)) w') : wpList P ops Q (o :: rest) a w :=
 xj hgd t e z n bytes ht hi hn hn2 x ho cs hx hl (h _ (nj.new w e cs) ((Below.refl _ _).alloc (Nat.le_refl _) _))
theorem vp : (prog.info? 24).map (·.size) = some 18 := by kernel_rfl
theorem wJ : (prog.info? 24).map (fun i => (i.zero, i.size, i.bytes)) = some (some (.agg oi.zero.cells.toArray), 18, 32) := by kernel_rfl
def CR (cs : List Value) (a : oi) : Prop := cs = a.cells /\ a.ip.length = 16
theorem CR.len {cs : List Value} {a : oi} (h : CR cs a) : cs.length = 18 := by rw [h.1]; exact a.nV h.2
abbrev uL (w : World) (B : Nat) (v : Value) (l : List oi) : Prop := nZ w B 24 18 CR v l
abbrev UH (w : World) (A : Option Addr) (l : List oi) : Prop := Vm w 18 CR A l
def rK {α : Type} (p : α -> Bool) (l : List α) (m : Nat) : List α := (l.filter p).take m
theorem yE {α : Type} {p : α -> Bool} {l : List α} {k m : Nat} (h : ((l.take k).filter p).length = m) : rK p l m = (l.take k).filter p := by
 unfold rK;have e : l.filter p = (l.take k).filter p ++ (l.drop k).filter p := by rw [<- List.filter_append, List.take_append_drop]
 rw [e, List.take_append_of_le_length ak, List.take_of_length_le ak]
theorem PE {α : Type} {p : α -> Bool} {l : List α} {m : Nat} (h : (l.filter p).length <= m) : rK p l m = l.filter p := List.take_of_length_le h
theorem uh {α : Type} {p : α -> Bool} {l : List α} {k : Nat} (hk : k < l.length) : (l.take (k + 1)).filter p = (l.take k).filter p ++ (if p l[k] then [l[k]] else []) := by
 rw [List.take_succ_eq_append_getElem hk, List.filter_append];cases h : p l[k] <;> simp [h]
def CT (a : oi) : Bool := a.check == 0
theorem CU (a : oi) (h : a.ip.length = 16) (w : World) : Calls prog 128 #[.agg a.cells.toArray] w (nM (.bool (CT a)) w) := by
 have hcl := a.nV h;have AC := Hh (fun W => uq a h W);have K : CT a = (a.check == 0) := rfl;have HK := Hh K;clear K;generalize a.cells = L at *;generalize a.check = ck at *;have HB : Below w.heap.size w (w.alloc (.cells L.toArray 24)) := eC;go_enter func128, ntmps128;go_wp2_with (refine nh (.load 24 (.tmp 1)) rfl ?_; go_must (refine ni rfl _ _ rfl w.heap.size 0 rfl (nj.new w 24 L) 18 ak _ underlying24 rfl vp L (qj ak) ?_));exact lS
theorem yF (n a b : Int) (w : World) : Calls prog 134 #[.int .i64 n, .int .i64 a, .int .i64 b] w (rN (.int .i64 (min (max n a) b)) w) := by
 go_enter func134, ntmps134;go_wp2;all_goals (go_ret; exact rN.mk (ru ak) rfl)
def wK {α : Type} (e : TypeId) (k : Nat) (R : World -> List Value -> α -> Prop) (l : List α) (w : World) (x : Ending) (w' : World) : Prop := ∃ v, x = .returned v /\ nZ w' w.heap.size e k (R w') v l /\ Below w.heap.size w w'
set_option maxHeartbeats 1000000 in
theorem MP (A : Option Addr) (c : Nat) (l : List oi) (m : Nat) (w : World) (hA : UH w A l) (hl : l.length <= 17592186044416) (hm : m <= 100) :
  Calls prog 127 #[.slice A l.length c, .int .i64 m, .func (.func 128) #[] #[]] w (wK 24 18 (fun _ => CR) (rK CT l m) w) := by
 have hadz : (oi.zero.cells).length = 18 := oi.zero.nV rfl;obtain ⟨p, hp⟩ : ∃ p, p = CT := eE;have MS := Hh (fun a h W => CU a h W);rw [<- hp] at MS ⊢;clear hp;go_enter func127, ntmps127;go_wp2_with fail;go_loopw [7, 12] (fun kv iv wr => ∃ k : Nat, k <= l.length /\ iv = .int .i64 k /\ uL wr w.heap.size kv ((l.take k).filter p) /\ ((l.take k).filter p).length <= m /\ Below w.heap.size w wr) (fun _ iv _ => l.length - (intOf iv).toNat)
 case atStart => exact ⟨0, Nat.zero_le _, rfl, nZ.nil _ _ _ _ _, ag, Below.refl _ _⟩
 obtain ⟨k, hk, rfl, ho, hle, hB⟩ := hrel;obtain ⟨Ak, ck, hv⟩ := ho.form;subst hv;by_cases hlt : k < l.length
 case neg => exact kj
 have hlt' : (k : Int) < l.length := ak;obtain ⟨b, off, rfl, hb, hr⟩ := hA ak;obtain ⟨cs, hcs, hce, hip⟩ := hr k hlt;have hcs := nO hcs hB hb;have hcl : cs.length = 18 := by rw [hce]; exact oi.nV _ hip
 have hone : ∀ v ∈ cs, v.oneCell' = true := jn;have MK : Hid (∀ W, Calls prog 128 #[.agg cs.toArray] W (nM (.bool (p l[k])) W)) := ja;have HC := Hh hce;have HO := Hh ho;have HI := Hh hip;clear hce hip hr ho hA;have W1 : Below wr.heap.size wr (wr.alloc (.cells oi.zero.cells.toArray 24)) := eC;by_cases hful : ((l.take k).filter p).length < m
 case neg =>
  have hful' : ¬ (((l.take k).filter p).length : Int) < m := ak;go_wp2_with (first
   | (refine nh (.load 24 (.tmp 14)) rfl ?_; go_must (refine pv rfl 24 (.tmp 14) rfl b (off + k * 18) rfl cs hcs _ underlying24 rfl bF ?_))
   | (refine nh (.store 24 (.tmp 9) (.tmp 15)) rfl (ab rfl wr.heap.size 0 cs (nj.new wr 24 oi.zero.cells) bG bF hone ?_)))
  intro w1 B1 g1 _;have H1 := ng (nc hB hB.size W1) g1 aD hB.size;have K1 := ng W1 g1 W1.size (Nat.le_refl _);clear g1 B1 W1;go_wp2_with fail;go_ret;refine ⟨_, rfl, ?_, H1⟩;have e : ((l.take k).filter p).length = m := ak;rw [yE e];exact nZ.below (R' := CR) HO.out K1 (fun _ _ h => h)
 have hful' : (((l.take k).filter p).length : Int) < m := ak;go_wp2_with (first
  | (refine nh (.load 24 (.tmp 14)) rfl ?_; go_must (refine pv rfl 24 (.tmp 14) rfl b (off + k * 18) rfl cs hcs _ underlying24 rfl bF ?_))
  | (refine nh (.store 24 (.tmp 9) (.tmp 15)) rfl (ab rfl wr.heap.size 0 cs (nj.new wr 24 oi.zero.cells) bG bF hone ?_)))
 intro w1 B1 g1 _;have B1' := oH B1 ak;have H1 := ng (nc hB hB.size W1) g1 aD hB.size;clear B1;go_wp2_with (refine nh (.load 24 (.tmp 9)) rfl ?_; go_must (refine ni rfl _ _ rfl wr.heap.size 0 rfl B1' 18 ak _ underlying24 rfl vp cs (qj ak) ?_));refine (MK.out _).mono ?_;rintro _ w2 ⟨rfl, b2⟩;have B2 := B1'.below b2 B1'.lt;have H2 := nc H1 H1.size b2;have K2 := nc (ng W1 g1 W1.size (Nat.le_refl _)) bH b2;have O2 := nZ.below (R' := CR) HO.out K2 (fun _ _ h => h);have FS := Hh (uh (p := p) hlt);have hlen : ((l.take k).filter p).length + 1 <= 200 := ak;clear MS MK hcs W1 g1 b2 B1' HO H1;cases hpk : p l[k] with
 | false => exact kP
 | true =>
  rw [hpk] at FS;have HP := Hh hpk;have K3 : Below w2.heap.size w2 (w2.alloc (.cells cs.toArray 24)) := eC;have O3 := nZ.below (R' := CR) O2 K3 (fun _ _ h => h);have N3 := O2.ne (Nat.le_refl _);clear hpk;go_wp2_with (first
   | (refine nh (.load 24 (.tmp 9)) rfl ?_; go_must (refine ni rfl _ _ rfl wr.heap.size 0 rfl B2 18 ak _ underlying24 rfl vp cs (qj ak) ?_))
   | (refine nh (.buildSlice 65 1 #[(0, .tmp 24)]) rfl ?_; go_must (refine xj rfl 65 24 _ 18 32 underlying65 wJ aj aj (.tmp 24) rfl cs rfl hcl ?_))
   | (at_builtin; go_must (refine sZ _ rfl _ _ 65 rfl 24 _ 18 32 underlying65 wJ (by kernel_rfl) aj w.heap.size _ _ rfl O3 bI w2.heap.size cs l[k] rfl (nj.new _ _ _) N3 hcl hone ⟨HC.out, HI.out⟩ aA ak ?_)))
  intro v' w4 O4 g4;have H4 := (nc H2 H2.size K3).grown g4 bI O3.base;clear g4 K3 O3 O2 N3 B2 H2;exact kr
structure Lt where
 ds : List Int
 us : Nat
def AW (l : List Int) : List Value := l.map (Value.int .i64)
def Lt.get (L : Lt) : Int := if h : L.us < L.ds.length then L.ds[L.us] else L.us
def qk (L : Lt) (n : Int) : Int × Lt := (IntKind.u64.wrap L.get % n, ⟨L.ds, L.us + 1⟩)
def oW (w : World) (g : Nat) (L : Lt) : Prop := ∃ v, nj w g 180 [v, .int .i64 L.us] /\ w.ownsRow 0 3 1 v L.ds.length (AW L.ds)
theorem oW.below {w w' : World} {g : Nat} {L : Lt} (h : oW w g L) (hb : Below w.heap.size w w') : oW w' g L := by
 obtain ⟨v, h1, h2⟩ := h;exact ⟨v, h1.below hb h1.lt, pC h2 hb⟩
theorem oW.fr {S : Nat -> Prop} {w w' : World} {g : Nat} {L : Lt} (h : oW w g L) (k : Fr S w w') (hg : ¬ S g) : oW w' g L := by
 obtain ⟨v, h1, h2⟩ := h;exact ⟨v, k.oL h1 hg, k.own h2 bJ⟩
theorem wL (L : Lt) {n : Int} (hn : 0 < n) : 0 <= (qk L n).1 /\ (qk L n).1 < n := ⟨Int.emod_nonneg _ ak, Int.emod_lt_of_pos _ hn⟩
theorem AX (d n : Int) (h1 : 0 < n) (h2 : n <= 100000) : wrap64 ((IntKind.u64.wrap d).tmod n) = IntKind.u64.wrap d % n := by
 have hu0 : 0 <= IntKind.u64.wrap d := by rw [IntKind.wrap_u64]; omega
 have h3 := Int.emod_nonneg (IntKind.u64.wrap d) (show n ≠ 0 by omega);have h4 := Int.emod_lt_of_pos (IntKind.u64.wrap d) h1;rw [Int.tmod_eq_emod_of_nonneg hu0];exact IntWalk.wrap64_in _ ⟨ak, ak⟩
def KO (g : Nat) (r : Int × Lt) (w : World) (e : Ending) (w' : World) : Prop := e = .returned (.int .i64 r.1) /\ oW w' g r.2 /\ w.grownBy w' (some g)
theorem xX (g : Nat) (L : Lt) (n : Int) (w : World) (h : oW w g L) (hn : 0 < n) (hn2 : n <= 100000) (hu : L.us <= 1000000000) (hd : L.ds.length <= 17592186044416) :
  Calls prog 224 #[.pointer (some ⟨g, 0, none⟩), .int .i64 n] w (KO g (qk L n) w) := by
 obtain ⟨v, hb, ho⟩ := h;obtain ⟨A, c, rfl⟩ := sT ho;have hgl := hb.lt;have c0 := hb.nf 0 rfl;have c1 := hb.nf 1 rfl;have f1 := hb.frozen 1;have hn' : decide (n < 1) = false := al;have hu0 : (0 : Int) <= L.us := ak;have hwn : IntKind.u64.wrap n = n := fK;have hn0 : ¬ n = 0 := ak;have hu1 : (L.us : Int) <= 1000000000 := ak;have DV := Hh (AX L.get n hn hn2);have FIN : Hid (∀ w1, Below w.heap.size w w1 -> KO g (qk L n) w (.returned (.int .i64 (IntKind.u64.wrap L.get % n))) (w1.setCell ⟨g, 1, none⟩ (.int .i64 ((L.us : Int) + 1)))) := Hh (fun w1 h1 => by
  have e : (.int .i64 ((L.us : Int) + 1)) = Value.int .i64 ((L.us + 1 : Nat) : Int) := by congr 1
  rw [e];have hg : w1.grownBy (w1.setCell ⟨g, 1, none⟩ (.int .i64 ((L.us + 1 : Nat) : Int))) (some g) := gI;refine ⟨rfl, ⟨_, (hb.below h1 hb.lt).set 1 _, ?_⟩, ns (nG h1 _) hg (.inl rfl)⟩;exact sQ (pC ho h1) hg (hb.below h1 hb.lt) aj)
 by_cases hlt : L.us < L.ds.length
 case pos =>
  have e1 : L.get = L.ds[L.us] := by unfold Lt.get; rw [dif_pos hlt]
  rw [e1] at DV FIN;obtain ⟨b, M, rfl, hM, hT, _⟩ := yD ho ak (by simp [AW]);have cd : w.cell? ⟨b, L.us, none⟩ = some (.int .i64 L.ds[L.us]) := hM.nf _ (by
   have : (M.take (L.ds.length * 1))[L.us]? = some (.int .i64 L.ds[L.us]) := by rw [hT]; simp [AW, hlt]
   rwa [List.getElem?_take_of_lt ak] at this)
  have hlt' : decide (L.us < L.ds.length) = true := ir;clear hb ho e1 hM hT hn hn2;generalize L.ds[L.us] = d at *;go_enter func224, ntmps224;go_wp2_with fail;go_quiet (fail);go_wp2_with fail;go_quiet (fail);go_wp2_with fail;go_ret;rw [DV.out];exact m9
 case neg =>
  have e1 : L.get = L.us := by unfold Lt.get; rw [dif_neg hlt]
  rw [e1] at DV FIN;have hlt' : decide (L.us < L.ds.length) = false := ir;have hwu : IntKind.u64.wrap (L.us : Int) = L.us := fK;have DV2 : Hid (wrap64 ((L.us : Int) % n) = (L.us : Int) % n) := Hh (by have := AX L.us n hn hn2; rwa [hwu, Int.tmod_eq_emod_of_nonneg hu0] at this);rw [hwu] at FIN;clear hb ho e1 hn hn2 hwu DV;go_enter func224, ntmps224;go_wp2_with fail;go_quiet (fail);go_wp2_with fail;go_ret;rw [DV2.out];exact m9
def VS (ds : List Int) (w : World) (e : Ending) (w' : World) : Prop := ∃ g, e = .returned (.pointer (some ⟨g, 0, none⟩)) /\ oW w' g ⟨ds, 0⟩ /\ Below w.heap.size w w' /\ w.heap.size <= g
theorem Hl (A : Option Addr) (c : Nat) (ds : List Int) (w : World) (hA : 0 < ds.length -> ∃ b off, A = some ⟨b, off, none⟩ /\ w.rangeAt b off (AW ds)) (hl : ds.length <= 17592186044415) :
  Calls prog 33 #[.slice A ds.length c] w (VS ds w) := by
 go_enter func33, ntmps33;go_wp2_with (at_builtin; go_must (refine sY w rfl _ _ 70 rfl 3 (.int .i64 0) 1 8 underlying70 (by kernel_rfl) rfl aj w.heap.size nA 0 [] rfl (World.ownsRow_nil _ _ _ _) (Nat.le_refl _) A ds.length c (AW ds) rfl hA (by simp [AW]) (fun u hu => by obtain ⟨b, _, rfl⟩ := List.mem_map.1 hu; rfl) aA ak ds.length ak ?_));intro A' c' w1 ho hg;have b1 : Below w.heap.size w w1 := (Below.refl _ _).grown hg (Nat.le_refl _) (by simp [nA, Value.ownBlock]);clear hg;go_wp2_with fail;go_ret;have BB : Below w1.heap.size w1 (w1.alloc (.cells #[.slice A' ds.length c', .int .i64 0] 180)) := eC;refine ⟨w1.heap.size, rfl, ⟨_, nj.new _ _ _, ?_⟩, nc b1 b1.size BB, b1.size⟩;exact pC (sX ho) BB
end Go.Proofs.YthnbcmlnpdabhaaGreat
