/-
  What stays when the blocks of exchanges, dials and lots are written: a frame by blocks and their types.
-/
import Derived.Test.YteimenplbanooaaGreatDoorRALq
namespace Go.Proofs.YteimenplbanooaaGreatDoor
open _root_.Go.Proofs.Tryz
open Go.RowKit
set_option maxRecDepth 100000
set_option linter.unusedVariables false
set_option linter.unusedSimpArgs false
def StTy (t : TypeId) : Prop := t = 437 ∨ t = 331 ∨ t = 135 ∨ t = 999999 ∨ t = 999999 ∨ t = 999999 ∨ t = 415 ∨ t = 222 ∨ t = 284 ∨ t = 352 ∨ t = 216 ∨ t = 185
def StT (w : World) (i : Nat) : Prop := ∃ t cs, Blk w i t cs ∧ StTy t
structure Fr (S : Nat → Prop) (w w' : World) : Prop where
 os : w'.os = w.os
 tape : w'.tape = w.tape
 output : w'.output = w.output
 size : w.heap.size ≤ w'.heap.size
 block : ∀ i, i < w.heap.size → w'.heap[i]? = w.heap[i]? ∨ (S i ∧ StT w i)
theorem Fr.refl (S : Nat → Prop) (w : World) : Fr S w w := ⟨rfl, rfl, rfl, Nat.le_refl _, fun _ _ => .inl rfl⟩
theorem Fr.trans {S S' : Nat → Prop} {a b c : World} (h : Fr S a b) (k : Fr S' b c) (hS : ∀ i, i < a.heap.size → S' i → S i) : Fr S a c :=
 ⟨k.os.trans h.os, k.tape.trans h.tape, k.output.trans h.output, Nat.le_trans h.size k.size, fun i hi => by
  rcases h.block i hi with e | e
  ·
   rcases k.block i (Nat.lt_of_lt_of_le hi h.size) with e' | ⟨e', t, cs, hb, ht⟩
   ·
    exact .inl (e'.trans e)
   ·
    exact .inr ⟨hS i hi e', t, cs, e.symm.trans hb, ht⟩
  ·
   exact .inr e⟩
theorem Fr.mono {S S' : Nat → Prop} {a b : World} (h : Fr S a b) (hS : ∀ i, S i → S' i) : Fr S' a b := ⟨h.os, h.tape, h.output, h.size, fun i hi => (h.block i hi).imp id (fun ⟨x, y⟩ => ⟨hS i x, y⟩)⟩
theorem Fr.below {S : Nat → Prop} {w w' : World} (h : Below w.heap.size w w') : Fr S w w' := ⟨h.os, h.tape, h.output, h.size, fun i hi => .inl (h.block i hi)⟩
theorem Fr.grown {S : Nat → Prop} {w w' : World} {g : Nat} {t : TypeId} {cs : List Value} (h : w.grownBy w' (some g)) (hb : Blk w g t cs) (ht : StTy t) (hg : S g) : Fr S w w' := ⟨h.os, h.tape, h.output, h.size, fun i hi => by
 by_cases e : i = g
 ·
  subst e; exact .inr ⟨hg, t, cs, hb, ht⟩
 ·
  exact .inl (h.block i hi (by simpa using e))⟩
theorem Fr.toBelow {S : Nat → Prop} {B : Nat} {a w w' : World} (h : Fr S w w') (hb : Below B a w) (hB : B ≤ w.heap.size) (hS : ∀ i, i < B → ¬ S i) : Below B a w' :=
 ⟨h.os.trans hb.os, h.tape.trans hb.tape, h.output.trans hb.output, Nat.le_trans hb.size h.size, fun i hi => by
  rcases h.block i (Nat.lt_of_lt_of_le hi hB) with e | e
  ·
   exact e.trans (hb.block i hi)
  ·
   exact absurd e.1 (hS i hi)⟩
theorem Fr.blk {S : Nat → Prop} {w w' : World} {g : Nat} {t : TypeId} {cs : List Value} (h : Fr S w w') (hb : Blk w g t cs) (hg : ¬ S g) : Blk w' g t cs := by
 rcases h.block g hb.lt with e | e
 ·
  exact e.trans hb
 ·
  exact absurd e.1 hg
theorem Fr.blkT {S : Nat → Prop} {w w' : World} {g : Nat} {t : TypeId} {cs : List Value} (h : Fr S w w') (hb : Blk w g t cs) (ht : ¬ StTy t) : Blk w' g t cs := by
 rcases h.block g hb.lt with e | ⟨_, t', cs', hb', ht'⟩
 ·
  exact e.trans hb
 ·
  unfold Blk at hb hb'
  rw [hb] at hb'
  injection hb' with hb'
  injection hb' with _ e
  exact absurd (e ▸ ht') ht
theorem Fr.own {S : Nat → Prop} {w w' : World} {B : Nat} {e : TypeId} {s n : Nat} {v : Value} {xs : List Value} (h : Fr S w w') (ho : w.ownsRow B e s v n xs) (he : ¬ StTy e) : w'.ownsRow B e s v n xs := by
 obtain ⟨h0, ho⟩ := ho
 refine ⟨h0, ?_⟩
 rcases ho with ho | ⟨g, cap, cur, hv, hB, hg, r⟩
 ·
  exact .inl ho
 ·
  exact .inr ⟨g, cap, cur, hv, hB, h.blkT (g := g) (t := e) (cs := cur.toList) hg he, r⟩
theorem run_appG {P : Program} (w : World) (t ty : TypeId) (e : TypeId) (z : Value) (size bytes : Nat) (ht : P.underlying t = some (.slice e)) (hi : (P.info? e).map (fun i => (i.zero, i.size, i.bytes)) = some (some z, size, bytes)) (hzs : z.cells.size = size) (hsz : 0 < size)
  (B : Nat) (v : Value) (n : Nat) (xs : List Value) (hown : w.ownsRow B e size v n xs) (hB : B ≤ w.heap.size) (A : Option Addr) (m c : Nat) (news : List Value) (hn : 0 < m → ∃ b off, A = some ⟨b, off, none⟩ ∧ w.rangeAt b off news) (hl : news.length = m * size) (h1 : ∀ u ∈ news, u.oneCell' = true) (h63 : n + m ≤ maxLen) (hbytes : (n + m) * bytes ≤ 140737488355328) :
  ∃ v' w', (Builtin.append_ #[t, t] ty #[v, .slice A m c]).run P w = .ok v' w' ∧ w'.ownsRow B e size v' (n + m) (xs ++ news) ∧ w.grownBy w' v.ownBlock := by
 obtain ⟨i, hi, hz, hsize, hby⟩ := info_parts hi
 by_cases hm : 0 < m
 ·
  obtain ⟨b, off, rfl, hr⟩ := hn hm
  obtain ⟨v', w', hr, h2, h3, _, h5⟩ := run_append_own_at (P := P) w B t ty e i _ size bytes ht hi hz hsize hby hzs (by omega) v n xs hown ⟨b, off, none⟩ m c news hl (fun j u hu => by
   have hadd : (⟨b, off, none⟩ : Addr).add j = ⟨b, off + j, none⟩ := by unfold Addr.add; split <;> simp_all
   rw [hadd]; exact hr j u hu) h1 h63 hbytes hB
  exact ⟨v', w', hr, h2, h3⟩
 ·
  obtain rfl : m = 0 := by omega
  have hnil : news = [] := List.length_eq_zero_iff.1 (by omega)
  subst hnil
  have hv : ∃ A' c', v = .slice A' n c' ∧ n ≤ c' := by
   rcases hown.2 with ⟨rfl, rfl⟩ | ⟨g, cap, cur, rfl, _, _, hc, _⟩
   ·
    exact ⟨none, 0, rfl, Nat.le_refl _⟩
   ·
    exact ⟨_, _, rfl, hc⟩
  obtain ⟨A', c', rfl, hcap⟩ := hv
  refine ⟨.slice A' n c', w, ?_, by simpa using hown, World.grownBy.refl _ _⟩
  cases A with
  | none => cases A' <;> simp [Builtin.append_, run_underlying ht, sizeOf, typeInfo, hi, hsize, Builtin.lenOf, hcap, Builtin.firstCells, storeCells]
  | some ad =>
   have hl0 : (loadCells ad 0).run P w = .ok #[] w := rfl
   cases A' <;> simp [hl0, Builtin.append_, run_underlying ht, sizeOf, typeInfo, hi, hsize, Builtin.lenOf, hcap, Builtin.firstCells, storeCells]
theorem wpList_appG {P : Program} (w : World) {ops : Array Oper} {rest : List Oper} {o : Oper} {a : Act} {Q : Exit → Act → World → Prop} (hgd : o.guard = none) (s x : Operand) (t : TypeId)
  (ho : o.op = .call { callee := .builtin .append, args := #[s, x], argTypes := #[t, t] })
  (e : TypeId) (z : Value) (size bytes : Nat) (ht : P.underlying t = some (.slice e)) (hi : (P.info? e).map (fun i => (i.zero, i.size, i.bytes)) = some (some z, size, bytes)) (hzs : z.cells.size = size) (hsz : 0 < size)
  (B : Nat) (v : Value) (n : Nat) (xs : List Value) (hs : a.eval s = v) (hown : w.ownsRow B e size v n xs) (hB : B ≤ w.heap.size) (A : Option Addr) (m c : Nat) (news : List Value) (hx : a.eval x = .slice A m c)
  (hn : 0 < m → ∃ b off, A = some ⟨b, off, none⟩ ∧ w.rangeAt b off news) (hl : news.length = m * size) (h1 : ∀ u ∈ news, u.oneCell' = true) (h63 : n + m ≤ maxLen) (hbytes : (n + m) * bytes ≤ 140737488355328) (k : Nat) (hk : k = n + m)
  (h : ∀ A' c' w', w'.ownsRow B e size (.slice A' k c') k (xs ++ news) → w.grownBy w' v.ownBlock → wpList P ops Q rest (a.put o.dst (.slice A' k c')) w') :
  wpList P ops Q (o :: rest) a w := by
 subst hk
 refine wpList_plain hgd fun K hK => ?_
 obtain ⟨v', w', hr, h2, h3⟩ := run_appG w t o.type e z size bytes ht hi hzs hsz B v n xs hown hB A m c news hn hl h1 h63 hbytes
 obtain ⟨A', c', rfl⟩ := own_form h2
 unfold Oper.wp execOp
 simp only [ho, resolve, invoke, builtin, Sem.run_bind, Sem.run_pure, Result.andThen_ok, List.map_toArray, List.map_cons, List.map_nil, hs, hx, hr]
 exact hK _ _ (h A' c' w' h2 h3)
theorem own_range {w : World} {B : Nat} {e : TypeId} {s : Nat} {A : Option Addr} {n c : Nat} {xs : List Value} (h : w.ownsRow B e s (.slice A n c) n xs) (hn : 0 < n) (hl : xs.length = n * s) : ∃ g L, A = some ⟨g, 0, none⟩ ∧ Blk w g e L ∧ L.take (n * s) = xs ∧ B ≤ g := by
 rcases h.2 with ⟨_, h0⟩ | ⟨g, cap, cur, hv, hB, hg, hc, hm, hs, ht⟩
 ·
  omega
 ·
  injection hv with h1 h2 h3
  exact ⟨g, cur.toList, h1, hg, ht, hB⟩
def LIn {α : Type} (w : World) (k : Nat) (R : List Value → α → Prop) (A : Option Addr) (l : List α) : Prop := 0 < l.length → ∃ b off, A = some ⟨b, off, none⟩ ∧ b < w.heap.size ∧ ∀ i (hi : i < l.length), ∃ cs, w.rangeAt b (off + i * k) cs ∧ R cs l[i]
theorem LIn.mono {α : Type} {w w' : World} {k : Nat} {R R' : List Value → α → Prop} {A : Option Addr} {l : List α} (h : LIn w k R A l) (hb : Below w.heap.size w w') (hm : ∀ cs x, R cs x → R' cs x) : LIn w' k R' A l := by
 intro hp
 obtain ⟨b, off, h1, h2, h3⟩ := h hp
 refine ⟨b, off, h1, Nat.lt_of_lt_of_le h2 hb.size, fun i hi => ?_⟩
 obtain ⟨cs, h4, h5⟩ := h3 i hi
 exact ⟨cs, range_below h4 hb h2, hm _ _ h5⟩
theorem LOwn.lin {α : Type} {w : World} {B : Nat} {e : TypeId} {k : Nat} {R : List Value → α → Prop} {A : Option Addr} {c : Nat} {l : List α} (hk : ∀ cs x, R cs x → cs.length = k) (h : LOwn w B e k R (.slice A l.length c) l) : LIn w k R A l := by
 intro hp
 obtain ⟨g, h1, h2, h3⟩ := h.at_ hk hp
 exact ⟨g, 0, h1, h2, h3⟩
theorem LOwn.below {α : Type} {w w' : World} {B : Nat} {e : TypeId} {k : Nat} {R R' : List Value → α → Prop} {v : Value} {l : List α} (h : LOwn w B e k R v l) (hb : Below w.heap.size w w') (hm : ∀ cs x, R cs x → R' cs x) : LOwn w' B e k R' v l := h.stays (fun _ x => own_below x hb) hm
theorem LOwn.nil {α : Type} (w : World) (B : Nat) (e : TypeId) (k : Nat) (R : List Value → α → Prop) : LOwn w B e k R nilS [] := ⟨[], World.ownsRow_nil _ _ _ _, trivial⟩
theorem LOwn.ne {α : Type} {w : World} {B : Nat} {e : TypeId} {k : Nat} {R : List Value → α → Prop} {v : Value} {l : List α} (h : LOwn w B e k R v l) {g : Nat} (hg : w.heap.size ≤ g) : v.ownBlock ≠ some g := by
 obtain ⟨_, ho, _⟩ := h
 intro e
 have := (ho.lt g e).2
 omega
theorem LOwn.base {α : Type} {w : World} {B : Nat} {e : TypeId} {k : Nat} {R : List Value → α → Prop} {v : Value} {l : List α} (h : LOwn w B e k R v l) : ∀ g, v.ownBlock = some g → B ≤ g := by
 obtain ⟨_, ho, _⟩ := h
 exact own_base ho
theorem LOwn.blk {α : Type} {w w' : World} {B g : Nat} {e t : TypeId} {k : Nat} {R : List Value → α → Prop} {v : Value} {l : List α} {cs : List Value} (h : LOwn w B e k R v l) (hg : w.grownBy w' (some g)) (hb : Blk w g t cs) (ht : t ≠ e) : LOwn w' B e k R v l := h.stays (fun _ x => own_blk x hg hb ht) (fun _ _ x => x)
theorem grown_cell1 (w : World) (g i : Nat) (u : Value) : w.grownBy (w.setCell ⟨g, i, none⟩ u) (some g) := grown_set (World.grownBy.refl _ _) i u
theorem LOwn.zero {α : Type} {w : World} {B : Nat} {e : TypeId} {k : Nat} {R : List Value → α → Prop} {v : Value} {l : List α} (h : LOwn w B e k R v l) : LOwn w 0 e k R v l := by
 obtain ⟨css, h1, h2⟩ := h
 exact ⟨css, own_zero h1, h2⟩
theorem LOwn.app1 {α : Type} {w : World} {B : Nat} {e : TypeId} {k : Nat} {R : List Value → α → Prop} {v v' : Value} {l : List α} {css : List (List Value)} {cs : List Value} {x : α} (h : Each R css l) (ho : w.ownsRow B e k v' (l.length + 1) (css.flatten ++ cs)) (hx : R cs x) : LOwn w B e k R v' (l ++ [x]) := by
 refine ⟨css ++ [cs], ?_, h.app1 hx⟩
 rw [List.length_append, List.length_singleton, List.flatten_append]
 simpa using ho
theorem blkAll {w : World} {g n : Nat} {t : TypeId} {L M : List Value} (h : Blk w g t (L ++ M.drop n)) (hM : M.length ≤ n) : Blk w g t L := by
 rwa [List.drop_of_length_le hM, List.append_nil] at h
theorem run_bsG {P : Program} (w : World) (t e : TypeId) (z : Value) (n bytes : Nat) (ht : P.underlying t = some (.slice e)) (hi : (P.info? e).map (fun i => (i.zero, i.size, i.bytes)) = some (some z, n, bytes)) (hn : 0 < n) (hn2 : n ≤ 1000) (cs : List Value) (hl : cs.length = n) : (Instr.buildSlice t 1 #[(0, .agg cs.toArray)]).run P w = .ok (.slice (some ⟨w.heap.size, 0, none⟩) 1 1) (w.alloc (.cells cs.toArray e)) := by
 obtain ⟨i, hi, hz, hsize, hby⟩ := info_parts hi
 refine run_buildSlice w t e 1 _ cs.toArray i _ ht hi hz (by rw [hsize]; omega) (by rw [hsize]; omega) ?_
 rw [hsize]
 have := fill_one n ((Array.range (1 * n)).map (z.cells[· % z.cells.size]!)).toList cs hl (by simp)
 rw [Array.toArray_toList] at this
 exact this
theorem wpList_bsG {P : Program} {ops : Array Oper} {rest : List Oper} {o : Oper} {a : Act} {w : World} {Q : Exit → Act → World → Prop} (hgd : o.guard = none) (t e : TypeId) (z : Value) (n bytes : Nat) (ht : P.underlying t = some (.slice e)) (hi : (P.info? e).map (fun i => (i.zero, i.size, i.bytes)) = some (some z, n, bytes)) (hn : 0 < n) (hn2 : n ≤ 1000)
  (x : Operand) (ho : o.op = .buildSlice t 1 #[(0, x)]) (cs : List Value) (hx : a.eval x = .agg cs.toArray) (hl : cs.length = n)
  (h : wpList P ops Q rest (a.put o.dst (.slice (some ⟨w.heap.size, 0, none⟩) 1 1)) (w.alloc (.cells cs.toArray e))) : wpList P ops Q (o :: rest) a w := by
 refine wpList_plain hgd fun K hK => ?_
 unfold Oper.wp execOp
 simp only [ho, Sem.run_bind, Sem.run_pure, Result.andThen_ok, List.map_toArray, List.map_cons, List.map_nil, hx, run_bsG w t e z n bytes ht hi hn hn2 cs hl]
 exact hK _ _ h
theorem wpList_app1 {P : Program} (w : World) {ops : Array Oper} {rest : List Oper} {o : Oper} {a : Act} {Q : Exit → Act → World → Prop} (hgd : o.guard = none) (s x : Operand) (t : TypeId)
  (ho : o.op = .call { callee := .builtin .append, args := #[s, x], argTypes := #[t, t] })
  (e : TypeId) (z : Value) (size bytes : Nat) (ht : P.underlying t = some (.slice e)) (hi : (P.info? e).map (fun i => (i.zero, i.size, i.bytes)) = some (some z, size, bytes)) (hzs : z.cells.size = size) (hsz : 0 < size)
  {α : Type} {R : List Value → α → Prop} (B : Nat) (v : Value) (l : List α) (hs : a.eval s = v) (h : LOwn w B e size R v l) (hB : B ≤ w.heap.size) (g : Nat) (cs : List Value) (r : α) (hx : a.eval x = .slice (some ⟨g, 0, none⟩) 1 1) (hb : Blk w g e cs) (hg : v.ownBlock ≠ some g)
  (hl : cs.length = size) (h1 : ∀ u ∈ cs, u.oneCell' = true) (hr : R cs r) (h63 : l.length + 1 ≤ maxLen) (hbytes : (l.length + 1) * bytes ≤ 140737488355328)
  (hk : ∀ v' w', LOwn w' B e size R v' (l ++ [r]) → w.grownBy w' v.ownBlock → wpList P ops Q rest (a.put o.dst v') w') :
  wpList P ops Q (o :: rest) a w := by
 obtain ⟨css, hown, hE⟩ := h
 refine wpList_appG w hgd s x t ho e z size bytes ht hi hzs hsz B v l.length css.flatten hs hown hB (some ⟨g, 0, none⟩) 1 1 cs hx (fun _ => ⟨g, 0, rfl, fun j u hu => by rw [Nat.zero_add]; exact hb.cell_ j hu⟩) (by omega) h1 h63 hbytes _ rfl ?_
 intro A' c' w' ho' hg'
 exact hk _ w' (LOwn.app1 (v := v) hE ho' hr) hg'
theorem LOwn.one {α : Type} {R : List Value → α → Prop} {w : World} {g : Nat} {e : TypeId} (k : Nat) {cs : List Value} {x : α} (hb : Blk w g e cs) (hl : cs.length = k) (hr : R cs x) : LOwn w 0 e k R (.slice (some ⟨g, 0, none⟩) 1 1) [x] := by
 refine ⟨[cs], ⟨by simp [hl], .inr ⟨g, 1, cs.toArray, rfl, Nat.zero_le _, hb, Nat.le_refl _, by simp [maxLen], by simp [hl], ?_⟩⟩, hr, trivial⟩
 simp only [List.flatten_cons, List.flatten_nil, List.append_nil, List.length_singleton, Nat.one_mul]
 exact List.take_of_length_le (by omega)
theorem wpList_bsN {P : Program} {ops : Array Oper} {rest : List Oper} {o : Oper} {a : Act} {w : World} {Q : Exit → Act → World → Prop} (hgd : o.guard = none) (t e : TypeId) (z : Value) (n bytes : Nat) (ht : P.underlying t = some (.slice e)) (hi : (P.info? e).map (fun i => (i.zero, i.size, i.bytes)) = some (some z, n, bytes)) (hn : 0 < n) (hn2 : n ≤ 1000)
  (x : Operand) (ho : o.op = .buildSlice t 1 #[(0, x)]) (cs : List Value) (hx : a.eval x = .agg cs.toArray) (hl : cs.length = n)
  (h : ∀ w', Blk w' w.heap.size e cs → Below w.heap.size w w' → wpList P ops Q rest (a.put o.dst (.slice (some ⟨w.heap.size, 0, none⟩) 1 1)) w') : wpList P ops Q (o :: rest) a w :=
 wpList_bsG hgd t e z n bytes ht hi hn hn2 x ho cs hx hl (h _ (Blk.new w e cs) ((Below.refl _ _).alloc (Nat.le_refl _) _))
theorem adI18 : (prog.info? 24).map (·.size) = some 18 := by kernel_rfl
theorem adInfo3 : (prog.info? 24).map (fun i => (i.zero, i.size, i.bytes)) = some (some (.agg Adr.zero.cells.toArray), 18, 32) := by kernel_rfl
def AdI (cs : List Value) (a : Adr) : Prop := cs = a.cells ∧ a.ip.length = 16
theorem AdI.len {cs : List Value} {a : Adr} (h : AdI cs a) : cs.length = 18 := by rw [h.1]; exact a.cells_len h.2
abbrev AdsO (w : World) (B : Nat) (v : Value) (l : List Adr) : Prop := LOwn w B 24 18 AdI v l
abbrev AdsR (w : World) (A : Option Addr) (l : List Adr) : Prop := LIn w 18 AdI A l
def leftP {α : Type} (p : α → Bool) (l : List α) (m : Nat) : List α := (l.filter p).take m
theorem left_full {α : Type} {p : α → Bool} {l : List α} {k m : Nat} (h : ((l.take k).filter p).length = m) : leftP p l m = (l.take k).filter p := by
 unfold leftP
 have e : l.filter p = (l.take k).filter p ++ (l.drop k).filter p := by rw [← List.filter_append, List.take_append_drop]
 rw [e, List.take_append_of_le_length (by omega), List.take_of_length_le (by omega)]
theorem left_all {α : Type} {p : α → Bool} {l : List α} {m : Nat} (h : (l.filter p).length ≤ m) : leftP p l m = l.filter p := List.take_of_length_le h
theorem filter_succ {α : Type} {p : α → Bool} {l : List α} {k : Nat} (hk : k < l.length) : (l.take (k + 1)).filter p = (l.take k).filter p ++ (if p l[k] then [l[k]] else []) := by
 rw [List.take_succ_eq_append_getElem hk, List.filter_append]
 cases h : p l[k] <;> simp [h]
def adOk (a : Adr) : Bool := a.check == 0
theorem mayServer_any (a : Adr) (h : a.ip.length = 16) (w : World) : Calls prog 55 #[.agg a.cells.toArray] w (RetB (.bool (adOk a)) w) := by
 have hcl := a.cells_len h
 have AC := Hh (fun W => addrCheck_any a h W)
 have K : adOk a = (a.check == 0) := rfl
 have HK := Hh K
 clear K
 generalize a.cells = L at *
 generalize a.check = ck at *
 have HB : Below w.heap.size w (w.alloc (.cells L.toArray 24)) := (Below.refl _ _).alloc (Nat.le_refl _) _
 go_enter func55, ntmps55
 go_wp2_with (refine at_op (.load 24 (.tmp 1)) rfl ?_; go_must (refine wpList_ldB rfl _ _ rfl w.heap.size 0 rfl (Blk.new w 24 L) 18 (by omega) _ underlying24 rfl adI18 L (tk0 (by omega)) ?_))
 refine (AC.out _).mono ?_
 rintro _ w1 ⟨rfl, b1⟩
 go_wp2_with fail
 go_ret
 exact RetB.mk (by rw [HK.out]; rfl) (below_then HB HB.size b1)
theorem heldN_any (n a b : Int) (w : World) : Calls prog 61 #[.int .i64 n, .int .i64 a, .int .i64 b] w (Ret (.int .i64 (min (max n a) b)) w) := by
 go_enter func61, ntmps61
 go_wp2
 all_goals (go_ret; exact Ret.mk (ret_int (by omega)) rfl)
def LeftRet {α : Type} (e : TypeId) (k : Nat) (R : World → List Value → α → Prop) (l : List α) (w : World) (x : Ending) (w' : World) : Prop := ∃ v, x = .returned v ∧ LOwn w' w.heap.size e k (R w') v l ∧ Below w.heap.size w w'
set_option maxHeartbeats 1000000 in
theorem leftA_any (A : Option Addr) (c : Nat) (l : List Adr) (m : Nat) (w : World) (hA : AdsR w A l) (hl : l.length ≤ 17592186044416) (hm : m ≤ 100) :
  Calls prog 54 #[.slice A l.length c, .int .i64 m, .func (.func 55) #[] #[]] w (LeftRet 24 18 (fun _ => AdI) (leftP adOk l m) w) := by
 have hadz : (Adr.zero.cells).length = 18 := Adr.zero.cells_len rfl
 obtain ⟨p, hp⟩ : ∃ p, p = adOk := ⟨_, rfl⟩
 have MS := Hh (fun a h W => mayServer_any a h W)
 rw [← hp] at MS ⊢
 clear hp
 go_enter func54, ntmps54
 go_wp2_with fail
 go_loopw [7, 12] (fun kv iv wr => ∃ k : Nat, k ≤ l.length ∧ iv = .int .i64 k ∧ AdsO wr w.heap.size kv ((l.take k).filter p) ∧ ((l.take k).filter p).length ≤ m ∧ Below w.heap.size w wr) (fun _ iv _ => l.length - (intOf iv).toNat)
 case atStart => exact ⟨0, Nat.zero_le _, rfl, LOwn.nil _ _ _ _ _, by simp, Below.refl _ _⟩
 obtain ⟨k, hk, rfl, ho, hle, hB⟩ := hrel
 obtain ⟨Ak, ck, hv⟩ := ho.form
 subst hv
 by_cases hlt : k < l.length
 case neg =>
  have hlt' : ¬ (k : Int) < l.length := by omega
  go_wp2_with fail
  go_ret
  refine ⟨_, rfl, ?_, hB⟩
  rw [List.take_of_length_le (by omega)] at ho hle
  rw [List.take_of_length_le (by omega), left_all hle]
  exact ho
 have hlt' : (k : Int) < l.length := by omega
 obtain ⟨b, off, rfl, hb, hr⟩ := hA (by omega)
 obtain ⟨cs, hcs, hce, hip⟩ := hr k hlt
 have hcs := range_below hcs hB hb
 have hcl : cs.length = 18 := by rw [hce]; exact Adr.cells_len _ hip
 have hone : ∀ v ∈ cs, v.oneCell' = true := by rw [hce]; exact Adr.cells_one _
 have MK : Hid (∀ W, Calls prog 55 #[.agg cs.toArray] W (RetB (.bool (p l[k])) W)) := Hh (fun W => by rw [hce]; exact MS.out _ hip W)
 have HC := Hh hce
 have HO := Hh ho
 have HI := Hh hip
 clear hce hip hr ho hA
 have W1 : Below wr.heap.size wr (wr.alloc (.cells Adr.zero.cells.toArray 24)) := (Below.refl _ _).alloc (Nat.le_refl _) _
 by_cases hful : ((l.take k).filter p).length < m
 case neg =>
  have hful' : ¬ (((l.take k).filter p).length : Int) < m := by omega
  go_wp2_with (first
   | (refine at_op (.load 24 (.tmp 14)) rfl ?_; go_must (refine wpList_ldR rfl 24 (.tmp 14) rfl b (off + k * 18) rfl cs hcs _ underlying24 rfl (by rw [hcl]; exact adI18) ?_))
   | (refine at_op (.store 24 (.tmp 9) (.tmp 15)) rfl ?_; go_must (refine wpList_stB rfl _ _ _ rfl wr.heap.size 0 rfl cs rfl (Blk.new wr 24 Adr.zero.cells) (by rw [hadz, hcl]; decide) (by rw [hcl]; exact adI18) hone ?_)))
  intro w1 B1 g1 _
  have H1 := below_grown (below_then hB hB.size W1) g1 (by have := hB.size; simp; omega) hB.size
  have K1 := below_grown W1 g1 W1.size (Nat.le_refl _)
  clear g1 B1 W1
  go_wp2_with fail
  go_ret
  refine ⟨_, rfl, ?_, H1⟩
  have e : ((l.take k).filter p).length = m := by omega
  rw [left_full e]
  exact LOwn.below (R' := AdI) HO.out K1 (fun _ _ h => h)
 have hful' : (((l.take k).filter p).length : Int) < m := by omega
 go_wp2_with (first
  | (refine at_op (.load 24 (.tmp 14)) rfl ?_; go_must (refine wpList_ldR rfl 24 (.tmp 14) rfl b (off + k * 18) rfl cs hcs _ underlying24 rfl (by rw [hcl]; exact adI18) ?_))
  | (refine at_op (.store 24 (.tmp 9) (.tmp 15)) rfl ?_; go_must (refine wpList_stB rfl _ _ _ rfl wr.heap.size 0 rfl cs rfl (Blk.new wr 24 Adr.zero.cells) (by rw [hadz, hcl]; decide) (by rw [hcl]; exact adI18) hone ?_)))
 intro w1 B1 g1 _
 have B1' := blkAll B1 (by omega)
 have H1 := below_grown (below_then hB hB.size W1) g1 (by have := hB.size; simp; omega) hB.size
 clear B1
 go_wp2_with (refine at_op (.load 24 (.tmp 9)) rfl ?_; go_must (refine wpList_ldB rfl _ _ rfl wr.heap.size 0 rfl B1' 18 (by omega) _ underlying24 rfl adI18 cs (tk0 (by omega)) ?_))
 refine (MK.out _).mono ?_
 rintro _ w2 ⟨rfl, b2⟩
 have B2 := B1'.below b2 B1'.lt
 have H2 := below_then H1 H1.size b2
 have K2 := below_then (below_grown W1 g1 W1.size (Nat.le_refl _)) (by have := g1.size; simp at this; omega) b2
 have O2 := LOwn.below (R' := AdI) HO.out K2 (fun _ _ h => h)
 have FS := Hh (filter_succ (p := p) hlt)
 have hlen : ((l.take k).filter p).length + 1 ≤ 200 := by omega
 clear MS MK hcs W1 g1 b2 B1' HO H1
 cases hpk : p l[k] with
 | false =>
  rw [hpk] at FS
  have HP := Hh hpk
  clear hpk
  go_wp2_with fail
  go_roundw
  case rel => exact ⟨k + 1, by omega, by go_num, by rw [FS.out]; simpa using O2, by rw [FS.out]; simpa using hle, H2⟩
  case measure => simp [intOf]; omega
 | true =>
  rw [hpk] at FS
  have HP := Hh hpk
  have K3 : Below w2.heap.size w2 (w2.alloc (.cells cs.toArray 24)) := (Below.refl _ _).alloc (Nat.le_refl _) _
  have O3 := LOwn.below (R' := AdI) O2 K3 (fun _ _ h => h)
  have N3 := O2.ne (Nat.le_refl _)
  clear hpk
  go_wp2_with (first
   | (refine at_op (.load 24 (.tmp 9)) rfl ?_; go_must (refine wpList_ldB rfl _ _ rfl wr.heap.size 0 rfl B2 18 (by omega) _ underlying24 rfl adI18 cs (tk0 (by omega)) ?_))
   | (refine at_op (.buildSlice 33 1 #[(0, .tmp 24)]) rfl ?_; go_must (refine wpList_bsG rfl 33 24 _ 18 32 underlying33 adInfo3 (by decide) (by decide) (.tmp 24) rfl cs rfl hcl ?_))
   | (at_builtin; go_must (refine wpList_app1 _ rfl _ _ 33 rfl 24 _ 18 32 underlying33 adInfo3 (by kernel_rfl) (by decide) w.heap.size _ _ rfl O3 (by have := H2.size; simp; omega) w2.heap.size cs l[k] rfl (Blk.new _ _ _) N3 hcl hone ⟨HC.out, HI.out⟩ (by simp only [maxLen]; omega) (by omega) ?_)))
  intro v' w4 O4 g4
  have H4 := (below_then H2 H2.size K3).grown g4 (by have := H2.size; simp; omega) O3.base
  clear g4 K3 O3 O2 N3 B2 H2
  go_wp2_with fail
  go_roundw
  case rel => exact ⟨k + 1, by omega, by go_num, by rw [FS.out]; exact O4, by rw [FS.out]; simp; omega, H4⟩
  case measure => simp [intOf]; omega
structure Lt where
 ds : List Int
 us : Nat
def i64s (l : List Int) : List Value := l.map (Value.int .i64)
def Lt.get (L : Lt) : Int := if h : L.us < L.ds.length then L.ds[L.us] else L.us
def drawL (L : Lt) (n : Int) : Int × Lt := (IntKind.u64.wrap L.get % n, ⟨L.ds, L.us + 1⟩)
def LotAt (w : World) (g : Nat) (L : Lt) : Prop := ∃ v, Blk w g 135 [v, .int .i64 L.us] ∧ w.ownsRow 0 3 1 v L.ds.length (i64s L.ds) ∧ ∀ k, v.ownBlock = some k → k < g
theorem LotAt.lt {w : World} {g : Nat} {L : Lt} (h : LotAt w g L) : g < w.heap.size := by obtain ⟨_, h, _⟩ := h; exact h.lt
theorem LotAt.below {w w' : World} {g : Nat} {L : Lt} (h : LotAt w g L) (hb : Below w.heap.size w w') : LotAt w' g L := by
 obtain ⟨v, h1, h2, h3⟩ := h
 exact ⟨v, h1.below hb h1.lt, own_below h2 hb, h3⟩
theorem LotAt.fr {S : Nat → Prop} {w w' : World} {g : Nat} {L : Lt} (h : LotAt w g L) (k : Fr S w w') (hg : ¬ S g) : LotAt w' g L := by
 obtain ⟨v, h1, h2, h3⟩ := h
 exact ⟨v, k.blk h1 hg, k.own h2 (by unfold StTy; decide), h3⟩
theorem draw_lt (L : Lt) {n : Int} (hn : 0 < n) : 0 ≤ (drawL L n).1 ∧ (drawL L n).1 < n := ⟨Int.emod_nonneg _ (by omega), Int.emod_lt_of_pos _ hn⟩
theorem draw_val (d n : Int) (h1 : 0 < n) (h2 : n ≤ 100000) : wrap64 ((IntKind.u64.wrap d).tmod n) = IntKind.u64.wrap d % n := by
 have hu0 : 0 ≤ IntKind.u64.wrap d := by rw [IntKind.wrap_u64]; omega
 have h3 := Int.emod_nonneg (IntKind.u64.wrap d) (show n ≠ 0 by omega)
 have h4 := Int.emod_lt_of_pos (IntKind.u64.wrap d) h1
 rw [Int.tmod_eq_emod_of_nonneg hu0]
 exact IntWalk.wrap64_in _ ⟨by omega, by omega⟩
def DrawRet (g : Nat) (r : Int × Lt) (w : World) (e : Ending) (w' : World) : Prop := e = .returned (.int .i64 r.1) ∧ LotAt w' g r.2 ∧ w.grownBy w' (some g)
theorem draw_any (g : Nat) (L : Lt) (n : Int) (w : World) (h : LotAt w g L) (hn : 0 < n) (hn2 : n ≤ 100000) (hu : L.us ≤ 1000000000) (hd : L.ds.length ≤ 17592186044416) :
  Calls prog 255 #[.pointer (some ⟨g, 0, none⟩), .int .i64 n] w (DrawRet g (drawL L n) w) := by
 obtain ⟨v, hb, ho, hlo⟩ := h
 obtain ⟨A, c, rfl⟩ := own_form ho
 have hgl := hb.lt
 have c0 := hb.cell_ 0 rfl
 have c1 := hb.cell_ 1 rfl
 have f1 := hb.frozen 1
 have hn' : decide (n < 1) = false := by simp; omega
 have hu0 : (0 : Int) ≤ L.us := by omega
 have hwn : IntKind.u64.wrap n = n := by rw [IntKind.wrap_u64]; exact Int.emod_eq_of_lt (by omega) (by omega)
 have hn0 : ¬ n = 0 := by omega
 have hu1 : (L.us : Int) ≤ 1000000000 := by omega
 have DV := Hh (draw_val L.get n hn hn2)
 have FIN : Hid (∀ w1, Below w.heap.size w w1 → DrawRet g (drawL L n) w (.returned (.int .i64 (IntKind.u64.wrap L.get % n))) (w1.setCell ⟨g, 1, none⟩ (.int .i64 ((L.us : Int) + 1)))) := Hh (fun w1 h1 => by
  have e : (.int .i64 ((L.us : Int) + 1)) = Value.int .i64 ((L.us + 1 : Nat) : Int) := by congr 1
  rw [e]
  have hg : w1.grownBy (w1.setCell ⟨g, 1, none⟩ (.int .i64 ((L.us + 1 : Nat) : Int))) (some g) := grown_set (World.grownBy.refl _ _) _ _
  refine ⟨rfl, ⟨_, (hb.below h1 hb.lt).set 1 _, ?_, hlo⟩, grown_trans (grown_of_below h1 _) hg (.inl rfl)⟩
  exact own_blk (own_below ho h1) hg (hb.below h1 hb.lt) (by decide))
 by_cases hlt : L.us < L.ds.length
 case pos =>
  have e1 : L.get = L.ds[L.us] := by unfold Lt.get; rw [dif_pos hlt]
  rw [e1] at DV FIN
  obtain ⟨b, M, rfl, hM, hT, _⟩ := own_range ho (by omega) (by simp [i64s])
  have cd : w.cell? ⟨b, L.us, none⟩ = some (.int .i64 L.ds[L.us]) := hM.cell_ _ (by
   have : (M.take (L.ds.length * 1))[L.us]? = some (.int .i64 L.ds[L.us]) := by rw [hT]; simp [i64s, hlt]
   rwa [List.getElem?_take_of_lt (by omega)] at this)
  have hlt' : decide (L.us < L.ds.length) = true := by simpa using hlt
  clear hb ho e1 hM hT hn hn2 hlo
  generalize L.ds[L.us] = d at *
  go_enter func255, ntmps255
  go_wp2_with fail
  go_quiet (fail)
  go_wp2_with fail
  go_quiet (fail)
  go_wp2_with fail
  go_ret
  rw [DV.out]
  exact FIN.out _ (below_drewN (Below.refl _ _) _)
 case neg =>
  have e1 : L.get = L.us := by unfold Lt.get; rw [dif_neg hlt]
  rw [e1] at DV FIN
  have hlt' : decide (L.us < L.ds.length) = false := by simpa using hlt
  have hwu : IntKind.u64.wrap (L.us : Int) = L.us := by rw [IntKind.wrap_u64]; exact Int.emod_eq_of_lt (by omega) (by omega)
  have DV2 : Hid (wrap64 ((L.us : Int) % n) = (L.us : Int) % n) := Hh (by have := draw_val L.us n hn hn2; rwa [hwu, Int.tmod_eq_emod_of_nonneg hu0] at this)
  rw [hwu] at FIN
  clear hb ho e1 hn hn2 hwu DV hlo
  go_enter func255, ntmps255
  go_wp2_with fail
  go_quiet (fail)
  go_wp2_with fail
  go_ret
  rw [DV2.out]
  exact FIN.out _ (below_drewN (Below.refl _ _) _)
def LnRet (ds : List Int) (w : World) (e : Ending) (w' : World) : Prop := ∃ g, e = .returned (.pointer (some ⟨g, 0, none⟩)) ∧ LotAt w' g ⟨ds, 0⟩ ∧ Below w.heap.size w w' ∧ w.heap.size ≤ g
theorem lnew_any (A : Option Addr) (c : Nat) (ds : List Int) (w : World) (hA : 0 < ds.length → ∃ b off, A = some ⟨b, off, none⟩ ∧ w.rangeAt b off (i64s ds)) (hl : ds.length ≤ 17592186044415) :
  Calls prog 18 #[.slice A ds.length c] w (LnRet ds w) := by
 go_enter func18, ntmps18
 go_wp2_with (at_builtin; go_must (refine wpList_appG w rfl _ _ 59 rfl 3 (.int .i64 0) 1 8 underlying59 (by kernel_rfl) rfl (by decide) w.heap.size nilS 0 [] rfl (World.ownsRow_nil _ _ _ _) (Nat.le_refl _) A ds.length c (i64s ds) rfl hA (by simp [i64s]) (fun u hu => by obtain ⟨b, _, rfl⟩ := List.mem_map.1 hu; rfl) (by simp only [maxLen]; omega) (by omega) ds.length (by omega) ?_))
 intro A' c' w1 ho hg
 have b1 : Below w.heap.size w w1 := (Below.refl _ _).grown hg (Nat.le_refl _) (by simp [nilS, Value.ownBlock])
 clear hg
 go_wp2_with fail
 go_ret
 have BB : Below w1.heap.size w1 (w1.alloc (.cells #[.slice A' ds.length c', .int .i64 0] 135)) := (Below.refl _ _).alloc (Nat.le_refl _) _
 refine ⟨w1.heap.size, rfl, ⟨_, Blk.new _ _ _, ?_, fun k hk => (ho.lt k hk).2⟩, below_then b1 b1.size BB, b1.size⟩
 exact own_below (own_zero ho) BB
end Go.Proofs.YteimenplbanooaaGreatDoor
