/-
  What octets say, plainly: names, numbers, records' data, questions, records, messages.
-/
import Derived.Test.YthnbcmlnpdabhaaGreatHIq
namespace Go.Proofs.YthnbcmlnpdabhaaGreat
open _root_.Go.Proofs.Tryz
set_option linter.unusedVariables false
set_option linter.unusedSimpArgs false
def nameAt (m : List UInt8) (p : Nat) : Except Int (List (List UInt8) × Nat) := match wV m p with
 | .ok l n => .ok (l, n)
 | .err e => .error e
 | .go _ => .error 0
def tE (m : List UInt8) (p : Nat) : Except Int (List (List UInt8) × Nat) := match nameAt m p with
 | .ok x => .ok x
 | .error e => .error (if e = 1 then 5 else e)
def qA (m : List UInt8) (k p : Nat) : Except Int (Nat × Nat) := if m.length < p + k then .error 1 else .ok (oE ((m.take (p + k)).drop p), p + k)
def qP (s : List UInt8) (p : Nat) : Except Int (List (List UInt8)) := match tE s p with
 | .error e => .error e
 | .ok (l, q) => if q = s.length then .ok l else .error 5
def yA (s : List UInt8) (p : Nat) : List Int := [(oE ((s.drop p).take 4) : Int), (oE ((s.drop (p + 4)).take 4) : Int), (oE ((s.drop (p + 8)).take 4) : Int), (oE ((s.drop (p + 12)).take 4) : Int), (oE ((s.drop (p + 16)).take 4) : Int)]
def rJ (m : List UInt8) (a n : Nat) (ty cl : Int) : Except Int RR :=
 if nX ty cl = 1 then (if n = 4 then .ok { RR.zero with ad := ⟨4, (m.take (a + n)).drop a ++ List.replicate 12 0, 0⟩ } else .error 5)
 else if nX ty cl = 28 then (if n = 16 then .ok { RR.zero with ad := ⟨6, (m.take (a + n)).drop a, 0⟩ } else .error 5)
 else if nX ty cl = 5 \/ nX ty cl = 12 then (match qP (m.take (a + n)) a with
  | .error e => .error e
  | .ok l => .ok { RR.zero with tg := l })
 else if nX ty cl = 33 then (if n < 6 then .error 5 else match qP (m.take (a + n)) (a + 6) with
  | .error e => .error e
  | .ok l => .ok { RR.zero with pri := oE (((m.take (a + n)).drop a).take 2), we := oE ((((m.take (a + n)).drop a).drop 2).take 2), po := oE ((((m.take (a + n)).drop a).drop 4).take 2), tg := l })
 else if nX ty cl = 6 then (match tE (m.take (a + n)) a with
  | .error e => .error e
  | .ok (l, p) => match tE (m.take (a + n)) p with
   | .error e => .error e
   | .ok (l', q) => if q + 20 = (m.take (a + n)).length then .ok { RR.zero with tg := l, ml := l', nums := yA (m.take (a + n)) q } else .error 5)
 else .ok { RR.zero with raw := (m.take (a + n)).drop a }
def qt (m : List UInt8) (p : Nat) : Except Int (Qn × Nat) := match nameAt m p with
 | .error e => .error e
 | .ok (n, p) => match qA m 2 p with
  | .error e => .error e
  | .ok (ty, p) => match qA m 2 p with
   | .error e => .error e
   | .ok (cl, p) => .ok (⟨n, ty, cl⟩, p)
def recAt (m : List UInt8) (p : Nat) : Except Int (RR × Nat) := match nameAt m p with
 | .error e => .error e
 | .ok (n, p) => match qA m 2 p with
  | .error e => .error e
  | .ok (ty, p) => match qA m 2 p with
   | .error e => .error e
   | .ok (cl, p) => match qA m 4 p with
    | .error e => .error e
    | .ok (ttl, p) => match qA m 2 p with
     | .error e => .error e
     | .ok (sz, p) => if m.length < p + sz then .error 1 else match rJ m p sz ty cl with
      | .error e => .error e
      | .ok r => .ok ({ r with name := n, ty := ty, cl := cl, ttl := ttl }, p + sz)
def oD {α : Type} (f : Nat -> Except Int (α × Nat)) : Nat -> Nat -> Except Int (List α × Nat)
 | 0, p => .ok ([], p)
 | k + 1, p => match f p with
  | .error e => .error e
  | .ok (x, p) => match oD f k p with
   | .error e => .error e
   | .ok (l, p) => .ok (x :: l, p)
def qQ {α : Type} (acc : List α) (o : Except Int (List α × Nat)) : Except Int (List α × Nat) := match o with
 | .error e => .error e
 | .ok (l, p) => .ok (acc ++ l, p)
theorem DD {α : Type} {f : Nat -> Except Int (α × Nat)} {acc : List α} {k p p' : Nat} {x : α} (h : f p = .ok (x, p')) : qQ acc (oD f (k + 1) p) = qQ (acc ++ [x]) (oD f k p') := by
 simp only [oD, h];cases oD f k p' with
 | error e => rfl
 | ok y => obtain ⟨l, q⟩ := y; simp [qQ]
theorem DF {α : Type} {f : Nat -> Except Int (α × Nat)} {acc : List α} {k p : Nat} {e : Int} (h : f p = .error e) : qQ acc (oD f (k + 1) p) = .error e := by
 simp only [oD, h, qQ]
theorem Mt {α : Type} {f : Nat -> Except Int (α × Nat)} {acc : List α} {p : Nat} : qQ acc (oD f 0 p) = .ok (acc, p) := by simp [oD, qQ]
theorem AH {α : Type} (o : Except Int (List α × Nat)) : qQ [] o = o := by
 cases o with
 | error e => rfl
 | ok y => obtain ⟨l, q⟩ := y; simp [qQ]
def qR (m : List UInt8) : Except Int oh :=
 if 65535 < m.length then .error 3
 else if m.length < 12 then .error 1
 else match oD (qt m) (sm m 4) 12 with
  | .error e => .error e
  | .ok (q, p) => match oD (recAt m) (sm m 6) p with
   | .error e => .error e
   | .ok (a, p) => match oD (recAt m) (sm m 8) p with
    | .error e => .error e
    | .ok (u, p) => match oD (recAt m) (sm m 10) p with
     | .error e => .error e
     | .ok (x, p) => if p < m.length then .error 2 else .ok ⟨Af (sm m 0) (sm m 2), q, a, u, x⟩
def Mu (e : Int) : Prop := e = 1 \/ e = 3 \/ e = 4 \/ e = 7 \/ e = 9
theorem Mu.ne {e : Int} (h : Mu e) : e ≠ 0 := by unfold Mu at h; omega
theorem u6 (m : List UInt8) (p : Nat) : (∃ l n, wV m p = .ok l n /\ nameAt m p = .ok (l, n) /\ n <= m.length /\ rl l /\ 1 + oC l <= 255) \/ (∃ e, wV m p = .err e /\ nameAt m p = .error e /\ Mu e) := by
 have := OP m p;unfold nameAt;cases h : wV m (p : Int) with
 | ok l n => rw [h] at this; exact .inl ⟨l, n, rfl, rfl, this.2.2, this.1, this.2.1⟩
 | err e => rw [h] at this; exact .inr ⟨e, rfl, rfl, this⟩
 | go s => rw [h] at this; exact False.elim this
def JC (e : Int) : Prop := e = 5 \/ e = 3 \/ e = 4 \/ e = 7 \/ e = 9
theorem JC.ne {e : Int} (h : JC e) : e ≠ 0 := by unfold JC at h; omega
theorem JC.nz {e : Int} (h : JC e) : (e != 0) = true := by simp; exact h.ne
theorem ug (m : List UInt8) (p : Nat) : (∃ l n, wV m p = .ok l n /\ tE m p = .ok (l, n) /\ n <= m.length /\ rl l /\ 1 + oC l <= 255) \/ (∃ e, wV m p = .err e /\ tE m p = .error (if e = 1 then 5 else e) /\ Mu e /\ JC (if e = 1 then 5 else e)) := by
 unfold tE;rcases u6 m p with ⟨l, n, h1, h2, h3⟩ | ⟨e, h1, h2, h3⟩
 ·exact .inl ⟨l, n, h1, by rw [h2], h3⟩
 ·refine .inr ⟨e, h1, by rw [h2], h3, ?_⟩;unfold Mu at h3; unfold JC;split <;> omega
open Go.RowKit
set_option maxRecDepth 100000
def Rows (w : World) : List (List Value) -> List RR -> Prop
 | [], [] => True
 | cs :: css, r :: l => sH w cs r /\ Rows w css l
 | _, _ => False
theorem KI : (prog.info? 119).map (fun i => (i.zero, i.size, i.bytes)) = some (some (.agg pr.toArray), 33, 208) := by kernel_rfl
theorem Pn (w : World) (ty : TypeId) (B : Nat) (v : Value) (n : Nat) (xs : List Value) (hown : w.ownsRow B 119 33 v n xs) (hB : B <= w.heap.size) (A : Option Addr) (m c : Nat) (news : List Value) (hn : 0 < m -> ∃ b off, A = some ⟨b, off, none⟩ /\ w.rangeAt b off news) (hl : news.length = m * 33) (h1 : ∀ u ∈ news, u.oneCell' = true) (hb : n + m <= 300000) :
  ∃ v' w', (Builtin.append_ #[48, 48] ty #[v, .slice A m c]).run prog w = .ok v' w' /\ w'.ownsRow B 119 33 v' (n + m) (xs ++ news) /\ w.grownBy w' v.ownBlock := by
 obtain ⟨i, hi, hz, hsize, hby⟩ := info_parts KI;by_cases hm : 0 < m
 ·
  obtain ⟨b, off, rfl, hr⟩ := hn hm;obtain ⟨v', w', hr, h2, h3, _, h5⟩ := run_append_own_at (P := prog) w B 48 ty 119 i _ 33 208 underlying48 hi hz hsize hby (by rw [show (Value.agg pr.toArray).cells = pr.toArray from rfl]; simp [xP]) ak v n xs hown ⟨b, off, none⟩ m c news hl (fun j u hu => by
   have hadd : (⟨b, off, none⟩ : Addr).add j = ⟨b, off + j, none⟩ := eU;rw [hadd]; exact hr j u hu) h1 aA ak hB
  exact mK
 ·
  obtain rfl : m = 0 := ak;have hnil : news = [] := ff;subst hnil;have hv : ∃ A' c', v = .slice A' n c' /\ n <= c' := by exact kC
  obtain ⟨A', c', rfl, hcap⟩ := hv;refine ⟨.slice A' n c', w, ?_, ej, World.grownBy.refl _ _⟩;cases A with
  | none => cases A' <;> simp [Builtin.append_, run_underlying underlying48, sizeOf, typeInfo, hi, hsize, Builtin.lenOf, hcap, Builtin.firstCells, storeCells]
  | some ad => have hl0 : (loadCells ad 0).run prog w = .ok #[] w := rfl;cases A' <;> simp [hl0, Builtin.append_, run_underlying underlying48, sizeOf, typeInfo, hi, hsize, Builtin.lenOf, hcap, Builtin.firstCells, storeCells]
theorem GQ (w : World) {ops : Array Oper} {rest : List Oper} {o : Oper} {a : Act} {Q : Exit -> Act -> World -> Prop} (hgd : o.guard = none) (s x : Operand)
  (ho : o.op = .call { callee := .builtin .append, args := #[s, x], argTypes := #[48, 48] })
  (B : Nat) (v : Value) (n : Nat) (xs : List Value) (hs : a.eval s = v) (hown : w.ownsRow B 119 33 v n xs) (hB : B <= w.heap.size) (A : Option Addr) (m c : Nat) (news : List Value) (hx : a.eval x = .slice A m c)
  (hn : 0 < m -> ∃ b off, A = some ⟨b, off, none⟩ /\ w.rangeAt b off news) (hl : news.length = m * 33) (h1 : ∀ u ∈ news, u.oneCell' = true) (hb : n + m <= 300000) (k : Nat) (hk : k = n + m)
  (h : ∀ A' c' w', w'.ownsRow B 119 33 (.slice A' k c') k (xs ++ news) -> w.grownBy w' v.ownBlock -> wpList prog ops Q rest (a.put o.dst (.slice A' k c')) w') :
  wpList prog ops Q (o :: rest) a w := by
 subst hk;refine wpList_plain hgd fun K hK => ?_
 obtain ⟨v', w', hr, h2, h3⟩ := Pn w o.type B v n xs hown hB A m c news hn hl h1 hb;exact jW
def vo (w : World) (v : Value) (n : List (List UInt8)) : Prop := pL w v n /\ nH n = 0
def nQ (w w' : World) : Prop := ∀ v n, pL w v n -> pL w' v n
theorem nQ.refl (w : World) : nQ w w := fun _ _ h => h
theorem nQ.trans {a b c : World} (h : nQ a b) (k : nQ b c) : nQ a c := fun v n x => k v n (h v n x)
theorem nQ.below {w w' : World} (h : Below w.heap.size w w') : nQ w w' := fun _ _ x => x.below h
theorem nQ.oL {w w' : World} {k : Nat} {t : TypeId} {cs : List Value} (hg : w.grownBy w' (some k)) (hk : nj w k t cs) (ht : t ≠ 9) : nQ w w' := fun _ _ x => x.grown hg hk ht
theorem nQ.own {w w' : World} {B : Nat} {e : TypeId} {s n : Nat} {v : Value} {xs : List Value} (h : w.ownsRow B e s v n xs) (hne : 9 ≠ e) (hg : w.grownBy w' v.ownBlock) : nQ w w' := fun _ _ x => xJ x h hne hg
theorem vo.stays {w w' : World} {v : Value} {n : List (List UInt8)} (h : vo w v n) (k : nQ w w') : vo w' v n := ⟨k _ _ h.1, h.2⟩
theorem vo.nil (w : World) : vo w nA [] := ⟨pL.nil w, rfl⟩
theorem vo.form {w : World} {v : Value} {n : List (List UInt8)} (h : vo w v n) : ∃ A c, v = .slice A n.length c /\ rQ w A c n := by
 obtain ⟨A, c, h1, h2, h3⟩ := h.1.form;obtain ⟨h4, h5⟩ := qB h.2;have h6 := wB n;exact ⟨A, c, h1, h2, h3, ak, fun l hl => by have := h4 l hl; omega⟩
theorem vo.one {w : World} {v : Value} {n : List (List UInt8)} (h : vo w v n) : v.oneCell' = true := by obtain ⟨A, c, rfl, _⟩ := h.form; rfl
theorem vo.cells {w : World} {v : Value} {n : List (List UInt8)} (h : vo w v n) : v.cells = #[v] := by obtain ⟨A, c, rfl, _⟩ := h.form; rfl
theorem vo.mk' {w : World} {v : Value} {n : List (List UInt8)} (h : pL w v n) (g : rl n) (s : 1 + oC n <= 255) : vo w v n := ⟨h, IZ g s⟩
def rj (w : World) (cs : List Value) (r : RR) : Prop := ∃ vn vt vm, cs = pO vn vt vm r /\ r.wf /\ vo w vn r.name /\ vo w vt r.tg /\ vo w vm r.ml /\ r.raw.length <= 140737488355328
theorem rj.stays {w w' : World} {cs : List Value} {r : RR} (h : rj w cs r) (k : nQ w w') : rj w' cs r := by
 obtain ⟨vn, vt, vm, h1, h2, h3, h4, h5, h6⟩ := h;exact ⟨vn, vt, vm, h1, h2, h3.stays k, h4.stays k, h5.stays k, h6⟩
theorem rj.is {w : World} {cs : List Value} {r : RR} (h : rj w cs r) : sH w cs r := by
 obtain ⟨vn, vt, vm, h1, h2, h3, h4, h5, h6⟩ := h;obtain ⟨An, cn, rfl, n3⟩ := h3.form;obtain ⟨At, ct, rfl, n4⟩ := h4.form;obtain ⟨Am, cm, rfl, n5⟩ := h5.form;exact ⟨An, cn, At, ct, Am, cm, h1, h2, n3, n4, n5, h6⟩
def AJ (w : World) (cs : List Value) (q : Qn) : Prop := ∃ vn, cs = qC vn q /\ vo w vn q.name
theorem AJ.stays {w w' : World} {cs : List Value} {q : Qn} (h : AJ w cs q) (k : nQ w w') : AJ w' cs q := by obtain ⟨vn, h1, h2⟩ := h; exact ⟨vn, h1, h2.stays k⟩
theorem AJ.len {w : World} {cs : List Value} {q : Qn} (h : AJ w cs q) : cs.length = 3 := by obtain ⟨vn, rfl, _⟩ := h; rfl
theorem AJ.one {w : World} {cs : List Value} {q : Qn} (h : AJ w cs q) : ∀ v ∈ cs, v.oneCell' = true := by
 obtain ⟨vn, rfl, h2⟩ := h;intro v hv;simp only [qC, List.mem_cons, List.not_mem_nil, or_false] at hv;rcases hv with rfl | rfl | rfl
 ·exact h2.one
 ·rfl
 ·rfl
def tq {α : Type} (R : List Value -> α -> Prop) : List (List Value) -> List α -> Prop
 | [], [] => True
 | cs :: css, r :: l => R cs r /\ tq R css l
 | _, _ => False
section
variable {α : Type} {R R' : List Value -> α -> Prop}
theorem tq.Mv {cs : List Value} {x : α} (hx : R cs x) : ∀ {css : List (List Value)} {l : List α}, tq R css l -> tq R (css ++ [cs]) (l ++ [x])
 | [], [], _ => ⟨hx, trivial⟩
 | _ :: _, _ :: _, h => ⟨h.1, tq.Mv hx h.2⟩
theorem tq.mono (hm : ∀ cs x, R cs x -> R' cs x) : ∀ {css : List (List Value)} {l : List α}, tq R css l -> tq R' css l
 | [], [], _ => trivial
 | _ :: _, _ :: _, h => ⟨hm _ _ h.1, tq.mono hm h.2⟩
theorem tq.get {k : Nat} (hk : ∀ cs x, R cs x -> cs.length = k) : ∀ {css : List (List Value)} {l : List α}, tq R css l -> ∀ (rest : List Value) (i : Nat) (hi : i < l.length), ∃ cs, ((css.flatten ++ rest).drop (i * k)).take k = cs /\ R cs l[i]
 | [], [], _, _, i, hi => absurd hi ag
 | cs :: css, r :: l, h, rest, 0, hi => by
  refine ⟨cs, ?_, h.1⟩;simp only [List.flatten_cons, Nat.zero_mul, List.drop_zero, List.append_assoc];exact List.take_left' (hk _ _ h.1)
 | cs :: css, r :: l, h, rest, i + 1, hi => by
  obtain ⟨ck, h1, h2⟩ := tq.get hk h.2 rest i aw;refine ⟨ck, ?_, en⟩;rw [<- h1];simp only [List.flatten_cons, List.append_assoc];rw [show (i + 1) * k = cs.length + i * k by rw [hk _ _ h.1, Nat.succ_mul, Nat.add_comm], <- List.drop_drop, List.drop_left]
def nZ (w : World) (B : Nat) (e : TypeId) (k : Nat) (R : List Value -> α -> Prop) (v : Value) (l : List α) : Prop := ∃ css, w.ownsRow B e k v l.length css.flatten /\ tq R css l
theorem nZ.form {w : World} {B : Nat} {e : TypeId} {k : Nat} {v : Value} {l : List α} (h : nZ w B e k R v l) : ∃ A c, v = .slice A l.length c := by
 obtain ⟨css, h1, _⟩ := h; exact sT h1
theorem nZ.at_ {w : World} {B : Nat} {e : TypeId} {k : Nat} {A : Option Addr} {c : Nat} {l : List α} (hk : ∀ cs x, R cs x -> cs.length = k) (h : nZ w B e k R (.slice A l.length c) l) (hp : 0 < l.length) :
  ∃ g, A = some ⟨g, 0, none⟩ /\ g < w.heap.size /\ ∀ i (hi : i < l.length), ∃ cs, w.rangeAt g (0 + i * k) cs /\ R cs l[i] := by
 obtain ⟨css, hown, hr⟩ := h;rcases hown.2 with ⟨_, h0⟩ | ⟨g, cap, cur, hv, hB, hg, hc, hm, hs, ht⟩
 ·omega
 ·
  injection hv with h1 h2 h3;have hcl : cur.toList.length = cur.size := ag;have htk : cur.toList = css.flatten ++ cur.toList.drop (l.length * k) := by rw [<- ht, List.take_append_drop]
  have hb : nj w g e cur.toList := hg;have hle : l.length * k <= cur.toList.length := by rw [hcl, hs]; exact Nat.mul_le_mul_right _ hc
  refine ⟨g, h1, hb.lt, fun i hi => ?_⟩;obtain ⟨cs, e1, e2⟩ := hr.get hk (cur.toList.drop (l.length * k)) i hi;rw [<- htk] at e1;refine ⟨cs, ?_, e2⟩;rw [<- e1, Nat.zero_add];have h4 : (i + 1) * k <= l.length * k := Nat.mul_le_mul_right _ hi;rw [Nat.succ_mul] at h4;exact hb.range (i * k) k ak
end
abbrev oz (w : World) (B : Nat) (v : Value) (l : List RR) : Prop := nZ w B 119 33 (rj w) v l
abbrev pW (w : World) (B : Nat) (v : Value) (l : List Qn) : Prop := nZ w B 28 3 (AJ w) v l
theorem rj.len {w : World} {cs : List Value} {r : RR} (h : rj w cs r) : cs.length = 33 := h.is.len
theorem rj.one {w : World} {cs : List Value} {r : RR} (h : rj w cs r) : ∀ v ∈ cs, v.oneCell' = true := h.is.one
theorem oz.nil (w : World) (B : Nat) : oz w B (.slice none 0 0) [] := ⟨[], World.ownsRow_nil _ _ _ _, trivial⟩
theorem pW.nil (w : World) (B : Nat) : pW w B (.slice none 0 0) [] := ⟨[], World.ownsRow_nil _ _ _ _, trivial⟩
theorem oz.rr {w : World} {B : Nat} {A : Option Addr} {c : Nat} {l : List RR} (h : oz w B (.slice A l.length c) l) : EP w A l := by
 intro hp;obtain ⟨g, h1, h2, h3⟩ := h.at_ (fun _ _ h => h.len) hp;refine ⟨g, 0, h1, h2, fun i hi => ?_⟩;obtain ⟨cs, h4, h5⟩ := h3 i hi;exact ⟨cs, h4, h5.is⟩
theorem pW.qq {w : World} {B : Nat} {A : Option Addr} {c : Nat} {l : List Qn} (h : pW w B (.slice A l.length c) l) : Vl w A l := by
 intro hp;obtain ⟨g, h1, h2, h3⟩ := h.at_ (fun _ _ h => h.len) hp;refine ⟨g, 0, h1, h2, fun i hi => ?_⟩;obtain ⟨cs, h4, vn, rfl, h5⟩ := h3 i hi;obtain ⟨An, cn, rfl, h6⟩ := h5.form;exact ⟨An, cn, h4, h6⟩
theorem nZ.stays {α : Type} {w w' : World} {B : Nat} {e : TypeId} {k : Nat} {R R' : List Value -> α -> Prop} {v : Value} {l : List α} (h : nZ w B e k R v l) (hr : ∀ xs, w.ownsRow B e k v l.length xs -> w'.ownsRow B e k v l.length xs) (hm : ∀ cs x, R cs x -> R' cs x) : nZ w' B e k R' v l := by
 obtain ⟨css, h1, h2⟩ := h;exact ⟨css, hr _ h1, h2.mono hm⟩
theorem oz.below {w w' : World} {B : Nat} {v : Value} {l : List RR} (h : oz w B v l) (hb : Below w.heap.size w w') : oz w' B v l := h.stays (fun _ x => pC x hb) (fun _ _ x => x.stays (nQ.below hb))
theorem pW.below {w w' : World} {B : Nat} {v : Value} {l : List Qn} (h : pW w B v l) (hb : Below w.heap.size w w') : pW w' B v l := h.stays (fun _ x => pC x hb) (fun _ _ x => x.stays (nQ.below hb))
theorem sQ {w w' : World} {B g : Nat} {e t : TypeId} {s n : Nat} {v : Value} {xs cs : List Value} (h : w.ownsRow B e s v n xs) (hg : w.grownBy w' (some g)) (hb : nj w g t cs) (ht : t ≠ e) : w'.ownsRow B e s v n xs := by
 refine World.ownsRow.kept h hg ?_;cases hv : v.ownBlock with
 | none => exact .inl rfl
 | some k =>
  refine .inr ?_;intro he;injection he with he;subst he;rcases h.2 with ⟨rfl, _⟩ | ⟨g', cap, cur, rfl, _, hh, _⟩
  ·simp [Value.ownBlock] at hv
  ·have : g' = k := jm;subst this;unfold nj at hb;rw [hh] at hb;injection hb with hb;injection hb with _ he;exact ht he.symm
theorem oz.oL {w w' : World} {B g : Nat} {t : TypeId} {cs : List Value} {v : Value} {l : List RR} (h : oz w B v l) (hg : w.grownBy w' (some g)) (hb : nj w g t cs) (h1 : t ≠ 119) (h2 : t ≠ 9) : oz w' B v l := h.stays (fun _ x => sQ x hg hb h1) (fun _ _ x => x.stays (nQ.oL hg hb h2))
theorem pW.oL {w w' : World} {B g : Nat} {t : TypeId} {cs : List Value} {v : Value} {l : List Qn} (h : pW w B v l) (hg : w.grownBy w' (some g)) (hb : nj w g t cs) (h1 : t ≠ 28) (h2 : t ≠ 9) : pW w' B v l := h.stays (fun _ x => sQ x hg hb h1) (fun _ _ x => x.stays (nQ.oL hg hb h2))
def nL (w : World) (cs : List Value) (m : oh) : Prop := ∃ vq va vu ve, cs = rT m.hd vq va vu ve /\ pW w 0 vq m.qs /\ oz w 0 va m.an /\ oz w 0 vu m.au /\ oz w 0 ve m.ex /\ m.qs.length <= 65535 /\ m.an.length <= 65535 /\ m.au.length <= 65535 /\ m.ex.length <= 65535
theorem nL.is {w : World} {cs : List Value} {m : oh} (h : nL w cs m) : ∃ Aq Aa Au Ae cq ca cu ce, uG w cs m Aq Aa Au Ae cq ca cu ce := by
 obtain ⟨vq, va, vu, ve, h1, h2, h3, h4, h5, l1, l2, l3, l4⟩ := h;obtain ⟨Aq, cq, rfl⟩ := h2.form;obtain ⟨Aa, ca, rfl⟩ := h3.form;obtain ⟨Au, cu, rfl⟩ := h4.form;obtain ⟨Ae, ce, rfl⟩ := h5.form;exact ⟨Aq, Aa, Au, Ae, cq, ca, cu, ce, h1, h2.qq, h3.rr, h4.rr, h5.rr, ak, ak, ak, ak⟩
theorem nL.below {w w' : World} {cs : List Value} {m : oh} (h : nL w cs m) (hb : Below w.heap.size w w') : nL w' cs m := by
 obtain ⟨vq, va, vu, ve, h1, h2, h3, h4, h5, l⟩ := h;exact ⟨vq, va, vu, ve, h1, h2.below hb, h3.below hb, h4.below hb, h5.below hb, l⟩
def oh.zero : oh := ⟨Hd.zero, [], [], [], []⟩
def nR : List Value := rT Hd.zero nA nA nA nA
theorem nL.zero (w : World) : nL w nR oh.zero := ⟨nA, nA, nA, nA, rfl, pW.nil w 0, oz.nil w 0, oz.nil w 0, oz.nil w 0, by simp [oh.zero], by simp [oh.zero], by simp [oh.zero], by simp [oh.zero]⟩
def strs (n : List (List UInt8)) : List Value := n.map fun t => Value.string (bs t)
theorem Po (n : List (List UInt8)) : (strs n).length = n.length := by simp [strs]
theorem Pp (n : List (List UInt8)) : ∀ v ∈ strs n, v.oneCell' = true := by
 intro v hv;exact m8
theorem Pq (w : World) (ty : TypeId) (B : Nat) (v : Value) (n : Nat) (xs : List Value) (hown : w.ownsRow B 9 1 v n xs) (hB : B <= w.heap.size) (A : Option Addr) (m c : Nat) (news : List Value) (hn : 0 < m -> ∃ b off, A = some ⟨b, off, none⟩ /\ w.rangeAt b off news) (hl : news.length = m) (h1 : ∀ u ∈ news, u.oneCell' = true) (hb : n + m <= 300000) :
  ∃ v' w', (Builtin.append_ #[26, 26] ty #[v, .slice A m c]).run prog w = .ok v' w' /\ w'.ownsRow B 9 1 v' (n + m) (xs ++ news) /\ w.grownBy w' v.ownBlock := by
 obtain ⟨i, hi, hz, hsize, hby⟩ := info_parts zh;by_cases hm : 0 < m
 ·
  obtain ⟨b, off, rfl, hr⟩ := hn hm;obtain ⟨v', w', hr, h2, h3, _, h5⟩ := run_append_own_at (P := prog) w B 26 ty 9 i _ 1 16 underlying26 hi hz hsize hby rfl ak v n xs hown ⟨b, off, none⟩ m c news ak (fun j u hu => by
   have hadd : (⟨b, off, none⟩ : Addr).add j = ⟨b, off + j, none⟩ := eU;rw [hadd]; exact hr j u hu) h1 aA ak hB
  exact mK
 ·
  obtain rfl : m = 0 := ak;have hnil : news = [] := ff;subst hnil;have hv : ∃ A' c', v = .slice A' n c' /\ n <= c' := by exact kC
  obtain ⟨A', c', rfl, hcap⟩ := hv;refine ⟨.slice A' n c', w, ?_, ej, World.grownBy.refl _ _⟩;cases A with
  | none => cases A' <;> simp [Builtin.append_, run_underlying underlying26, sizeOf, typeInfo, hi, hsize, Builtin.lenOf, hcap, Builtin.firstCells, storeCells]
  | some ad => have hl0 : (loadCells ad 0).run prog w = .ok #[] w := rfl;cases A' <;> simp [hl0, Builtin.append_, run_underlying underlying26, sizeOf, typeInfo, hi, hsize, Builtin.lenOf, hcap, Builtin.firstCells, storeCells]
theorem GR (w : World) {ops : Array Oper} {rest : List Oper} {o : Oper} {a : Act} {Q : Exit -> Act -> World -> Prop} (hgd : o.guard = none) (s x : Operand)
  (ho : o.op = .call { callee := .builtin .append, args := #[s, x], argTypes := #[26, 26] })
  (B : Nat) (v : Value) (n : Nat) (xs : List Value) (hs : a.eval s = v) (hown : w.ownsRow B 9 1 v n xs) (hB : B <= w.heap.size) (A : Option Addr) (m c : Nat) (news : List Value) (hx : a.eval x = .slice A m c)
  (hn : 0 < m -> ∃ b off, A = some ⟨b, off, none⟩ /\ w.rangeAt b off news) (hl : news.length = m) (h1 : ∀ u ∈ news, u.oneCell' = true) (hb : n + m <= 300000) (k : Nat) (hk : k = n + m)
  (h : ∀ A' c' w', w'.ownsRow B 9 1 (.slice A' k c') k (xs ++ news) -> w.grownBy w' v.ownBlock -> wpList prog ops Q rest (a.put o.dst (.slice A' k c')) w') :
  wpList prog ops Q (o :: rest) a w := by
 subst hk;refine wpList_plain hgd fun K hK => ?_
 obtain ⟨v', w', hr, h2, h3⟩ := Pq w o.type B v n xs hown hB A m c news hn hl h1 hb;exact jW
theorem rQ.range {w : World} {A : Option Addr} {c : Nat} {n : List (List UInt8)} (h : rQ w A c n) : 0 < n.length -> ∃ b off, A = some ⟨b, off, none⟩ /\ w.rangeAt b off (strs n) := by
 intro hp;obtain ⟨b, off, h1, h2, h3⟩ := h.1 hp;refine ⟨b, off, h1, fun j v hv => ?_⟩;have hj : j < n.length := by have := (List.getElem?_eq_some_iff.1 hv).1; simpa [strs] using this
 rw [h3 j hj, <- hv];simp [strs, hj]
theorem Mw (w : World) (B : Nat) (hB : B <= w.heap.size) : (w.alloc (.cells #[] 9)).ownsRow B 9 1 (.slice (some ⟨w.heap.size, 0, none⟩) 0 0) 0 [] := by
 refine ⟨rfl, .inr ⟨w.heap.size, 0, #[], rfl, hB, heap_alloc_new w _, Nat.le_refl _, by simp [maxLen], rfl, rfl⟩⟩
theorem KJ (A : Option Addr) (n c : Nat) (w : World) : (binOp BinOp.eql 26 (.slice A n c) (.slice none 0 0)).run prog w = .ok (.bool A.isNone) w := by
 cases A <;> kernel_rfl
def Pr (n : List (List UInt8)) (w : World) (e : Ending) (w' : World) : Prop := ∃ A c, e = .returned (.slice A n.length c) /\ w'.ownsRow w.heap.size 9 1 (.slice A n.length c) n.length (strs n) /\ Below w.heap.size w w'
theorem tN (A : Option Addr) (c : Nat) (n : List (List UInt8)) (w : World) (hA : rQ w A c n) (hn : n.length <= 100000) :
  Calls prog 73 #[.slice A n.length c] w (Pr n w) := by
 cases A with
 | none =>
  have h0 : n = [] := by
   cases n with
   | nil => rfl
   | cons x n => obtain ⟨b, off, h, _⟩ := hA.1 ag; cases h
  subst h0;have EN := KJ none 0 c;go_enter func73, ntmps73;go_wp2_with fail;go_ret;exact ⟨none, 0, rfl, World.ownsRow_nil _ _ _ _, Below.refl _ _⟩
 | some ad => have RG := Hh (fun w' (b : Below w.heap.size w w') => (hA.below b).range);clear hA;have EN := KJ (some ad) n.length c;have kb : Below w.heap.size w (w.alloc (.cells #[] 9)) := eC;go_enter func73, ntmps73;go_wp2_with (at_builtin; go_must (refine GR _ rfl (.tmp 5) (.tmp 6) rfl w.heap.size _ 0 [] rfl (Mw w _ (Nat.le_refl _)) kb.size (some ad) n.length c (strs n) rfl (RG.out _ kb) (Po n) (Pp n) ak n.length ak ?_));intro A' c' w' ho hg;have HB : Below w.heap.size w w' := kb.grown hg kb.size (fun k hk => by simp [Value.ownBlock] at hk; omega);go_wp2_with fail;go_ret;exact ⟨A', c', rfl, by simpa using ho, HB⟩
def ES : RR := { RR.zero with ty := 41, cl := 1232 }
def CJ (id : Int) : Hd := { Hd.zero with id := id, rd := true }
def pf (q : Qn) (id : Int) (edns : Bool) : oh := ⟨CJ id, [q], [], [], if edns then [ES] else []⟩
def yT (lo : Nat) (w w' : World) : Prop := w.heap.size <= w'.heap.size /\ ∀ i, lo <= i -> i < w.heap.size -> w'.heap[i]? = w.heap[i]?
theorem yT.refl (lo : Nat) (w : World) : yT lo w w := ⟨Nat.le_refl _, fun _ _ _ => rfl⟩
theorem yT.oL {lo : Nat} {w w' : World} (h : yT lo w w') {g : Nat} {t : TypeId} {cs : List Value} (hb : nj w g t cs) (hg : lo <= g) : nj w' g t cs := (h.2 g hg hb.lt).trans hb
theorem yT.own {lo B : Nat} {w w' : World} (h : yT lo w w') (hB : lo <= B) {e : TypeId} {s n : Nat} {v : Value} {xs : List Value} (ho : w.ownsRow B e s v n xs) : w'.ownsRow B e s v n xs := by
 refine ⟨ho.1, ?_⟩;rcases ho.2 with hn | ⟨g, cap, cur, hv, hb, hh, rest⟩
 ·exact .inl hn
 ·exact .inr ⟨g, cap, cur, hv, hb, (h.2 g (Nat.le_trans hB hb) (EI hh)).trans hh, rest⟩
theorem sX {B : Nat} {w : World} {e : TypeId} {s n : Nat} {v : Value} {xs : List Value} (ho : w.ownsRow B e s v n xs) : w.ownsRow 0 e s v n xs := by
 refine ⟨ho.1, ?_⟩;rcases ho.2 with hn | ⟨g, cap, cur, hv, hb, hh, rest⟩
 ·exact .inl hn
 ·exact .inr ⟨g, cap, cur, hv, Nat.zero_le _, hh, rest⟩
theorem Ps {B : Nat} {w : World} {A : Option Addr} {c : Nat} {n : List (List UInt8)} (ho : w.ownsRow B 9 1 (.slice A n.length c) n.length (strs n)) (h1 : n.length <= 17592186044416) (h2 : ∀ l ∈ n, l.length <= 140737488355328) : rQ w A c n := by
 have hT : pL w (.slice A n.length c) n := sX ho;obtain ⟨A', c', h3, h4, h5⟩ := hT.form;injection h3 with e1 e2 e3;subst e1;subst e3;exact ⟨h4, h5, h1, h2⟩
def UG (m : oh) (w : World) (e : Ending) (w' : World) : Prop := ∃ cs Aq Aa Au Ae cq ca cu ce, e = .returned (.agg cs.toArray) /\ Below w.heap.size w w' /\ ∀ w'', yT w.heap.size w' w'' -> uG w'' cs m Aq Aa Au Ae cq ca cu ce
def MA : List Value := pO nA nA nA ES
theorem VP (w : World) : sH w MA ES := ⟨none, 0, none, 0, none, 0, rfl, ⟨rfl, rfl⟩, rQ.nil _, rQ.nil _, rQ.nil _, by simp [ES, RR.zero]⟩
theorem VQ {w : World} {B gq gr : Nat} {A : Option Addr} {c : Nat} {q : Qn} {id : Int} {edns : Bool} (hq : nj w gq 28 [.slice A q.name.length c, .int .i64 q.ty, .int .i64 q.cl]) (hr : edns = true -> nj w gr 119 MA) (hN : rQ w A c q.name) :
  uG w (rT (CJ id) (.slice (some ⟨gq, 0, none⟩) 1 1) nA nA (if edns then .slice (some ⟨gr, 0, none⟩) 1 1 else nA)) (pf q id edns) (some ⟨gq, 0, none⟩) none none (if edns then some ⟨gr, 0, none⟩ else none) 1 0 0 (if edns then 1 else 0) := by
 refine ⟨?_, fun _ => ⟨gq, 0, rfl, hq.lt, fun i hi => ?_⟩, fun h => absurd h bh, fun h => absurd h bh, ?_, by simp [pf], by simp [pf], by simp [pf], ?_⟩
 ·cases edns <;> rfl
 ·
  obtain rfl : i = 0 := by simp [pf] at hi; omega
  exact ⟨A, c, hq.range 0 3 ag, hN⟩
 ·
  cases edns with
  | false => exact fun h => absurd h bh
  | true =>
   refine fun _ => ⟨gr, 0, rfl, (hr rfl).lt, fun i hi => ?_⟩
   obtain rfl : i = 0 := by simp [pf] at hi; omega
   refine ⟨MA, ?_, VP w⟩;have := (hr rfl).range 0 33 bj;rw [List.drop_zero, List.take_of_length_le bj] at this;exact this
 ·cases edns <;> simp [pf]
set_option maxHeartbeats 4000000 in
theorem AK (A : Option Addr) (c : Nat) (q : Qn) (id : Int) (edns : Bool) (w : World) (hA : rQ w A c q.name) (hn : q.name.length <= 100000) :
  Calls prog 116 #[.agg #[.slice A q.name.length c, .int .i64 q.ty, .int .i64 q.cl], .int .i64 id, .bool edns] w (UG (pf q id edns) w) := by
 have b0 : Below w.heap.size w ((w.alloc (.cells #[.slice A q.name.length c, .int .i64 q.ty, .int .i64 q.cl] 28)).alloc (.cells #[.int .i64 0, .bool false, .int .i64 0, .bool false, .bool false, .bool false, .bool false, .bool false, .bool false, .int .i64 0, .slice none 0 0, .slice none 0 0, .slice none 0 0, .slice none 0 0] 50)) := eG;have B3' : nj ((w.alloc (.cells #[.slice A q.name.length c, .int .i64 q.ty, .int .i64 q.cl] 28)).alloc (.cells #[.int .i64 0, .bool false, .int .i64 0, .bool false, .bool false, .bool false, .bool false, .bool false, .bool false, .int .i64 0, .slice none 0 0, .slice none 0 0, .slice none 0 0, .slice none 0 0] 50)) w.heap.size 28 [.slice A q.name.length c, .int .i64 q.ty, .int .i64 q.cl] := (nj.new w 28 [.slice A q.name.length c, .int .i64 q.ty, .int .i64 q.cl]).alloc _;have B6' : nj ((w.alloc (.cells #[.slice A q.name.length c, .int .i64 q.ty, .int .i64 q.cl] 28)).alloc (.cells #[.int .i64 0, .bool false, .int .i64 0, .bool false, .bool false, .bool false, .bool false, .bool false, .bool false, .int .i64 0, .slice none 0 0, .slice none 0 0, .slice none 0 0, .slice none 0 0] 50)) (w.heap.size + 1) 50 nR := nj.ph _ _ nR _ ag;have CL := Hh (tN A c q.name _ (hA.below b0) hn);have hb1 := hA.2.2.1;have hb2 := hA.2.2.2;have AI := Hh (fun (w : World) (gq gr : Nat) (A : Option Addr) (c : Nat) => @VQ w 0 gq gr A c q id edns);have ON := Hh (fun (w : World) (B : Nat) (A : Option Addr) (c : Nat) (ho : w.ownsRow B 9 1 (.slice A q.name.length c) q.name.length (strs q.name)) => Ps ho hb1 hb2);clear hA hn hb1 hb2;generalize pf q id edns = M at *;generalize q.ty = ty at *;generalize q.cl = cl at *;generalize q.name = nm at *;go_enter func116, ntmps116;go_wp2_with fail;refine CL.out.mono ?_;rintro _ w3 ⟨A', c', rfl, ho, k3⟩;have B3 := B3'.below k3 B3'.lt;have B6 := B6'.below k3 B6'.lt;have b3 := nc b0 b0.size k3;have hlo : w.heap.size <= ((w.alloc (.cells #[.slice A nm.length c, .int .i64 ty, .int .i64 cl] 28)).alloc (.cells #[.int .i64 0, .bool false, .int .i64 0, .bool false, .bool false, .bool false, .bool false, .bool false, .bool false, .int .i64 0, .slice none 0 0, .slice none 0 0, .slice none 0 0, .slice none 0 0] 50)).heap.size := b0.size;have hsz : w.heap.size + 2 <= w3.heap.size := by have := k3.size; simp at this; omega
 generalize ((w.alloc (.cells #[.slice A nm.length c, .int .i64 ty, .int .i64 cl] 28)).alloc (.cells #[.int .i64 0, .bool false, .int .i64 0, .bool false, .bool false, .bool false, .bool false, .bool false, .bool false, .int .i64 0, .slice none 0 0, .slice none 0 0, .slice none 0 0, .slice none 0 0] 50)).heap.size = lo2 at *;clear CL B3' B6' b0 k3;go_wp2_with (refine nh (.store 26 (.tmp 11) (.tmp 10)) rfl (af rfl w.heap.size 0 (.slice A' nm.length c') B3 ag rZ ?_));intro w4 B4 g4 s4;have B64 := B6.grown g4 ag;have ho4 := sQ ho g4 B3 aj;have b4 := ng b3 g4 b3.size (Nat.le_refl _);clear B3 B6 ho g4 b3;cases edns with
 | false =>
  go_wp2_with (first
   | (refine nh (.load 28 (.tmp 3)) rfl ?_; go_must (refine ni rfl _ _ rfl w.heap.size 0 rfl B4 3 ag _ underlying28 rfl rD [.slice A' nm.length c', .int .i64 ty, .int .i64 cl] rfl ?_))
   | (refine nh (.store 50 (.tmp 6) (.tmp 21)) rfl (ab rfl (w.heap.size + 1) 0 (rT (CJ id) (.slice (some ⟨w3.heap.size, 0, none⟩) 1 1) nA nA nA) (nj.alloc (nj.alloc B64 _) _) bl oy (vM _ rfl rfl rfl rfl) ?_)))
  intro w5 B5 g5 s5;have Bq : nj w5 w3.heap.size 28 [.slice A' nm.length c', .int .i64 ty, .int .i64 cl] := by refine nj.grown ((nj.ph w4 28 [.slice A' nm.length c', .int .i64 ty, .int .i64 cl] _ s4.symm).alloc _) g5 al
  have kk : ∀ o1 o2, Below w4.heap.size w4 ((w4.alloc o1).alloc o2) := fg;have ho5 := sQ (pC ho4 (kk _ _)) g5 (nj.alloc (nj.alloc B64 _) _) aj;have b5 := ng (nc b4 b4.size (kk _ _)) g5 bm ak;clear kk g5 B4 B64 ho4 b4;go_wp2_with fail;refine oP rfl (w.heap.size + 1) rfl B5 _ underlying50 rfl oy rfl ?_;exact ⟨_, _, _, _, _, _, _, _, _, rfl, b5, fun w'' hA => AI.out w'' w3.heap.size 0 A' c' (hA.oL Bq ak) (fun h => by cases h) (ON.out w'' lo2 A' c' (hA.own hlo ho5))⟩
 | true =>
  go_wp2_with (first
   | (refine nh (.load 28 (.tmp 3)) rfl ?_; go_must (refine ni rfl _ _ rfl w.heap.size 0 rfl B4 3 ag _ underlying28 rfl rD [.slice A' nm.length c', .int .i64 ty, .int .i64 cl] rfl ?_))
   | (refine nh (.store 50 (.tmp 6) (.tmp 21)) rfl (ab rfl (w.heap.size + 1) 0 (rT (CJ id) (.slice (some ⟨w3.heap.size, 0, none⟩) 1 1) nA nA (.slice (some ⟨w3.heap.size + 1 + 1, 0, none⟩) 1 1)) (nj.alloc (nj.alloc (nj.alloc B64 _) _) _) bl oy (vM _ rfl rfl rfl rfl) ?_)))
  intro w5 B5 g5 s5;have Bq : nj w5 w3.heap.size 28 [.slice A' nm.length c', .int .i64 ty, .int .i64 cl] := by refine nj.grown (((nj.ph w4 28 [.slice A' nm.length c', .int .i64 ty, .int .i64 cl] _ s4.symm).alloc _).alloc _) g5 al
  have Br : nj w5 (w3.heap.size + 1 + 1) 119 MA := nj.grown (nj.ph _ 119 MA _ al) g5 al;have kk : ∀ o1 o2 o3, Below w4.heap.size w4 (((w4.alloc o1).alloc o2).alloc o3) := gu;have ho5 := sQ (pC ho4 (kk _ _ _)) g5 (nj.alloc (nj.alloc (nj.alloc B64 _) _) _) aj;have b5 := ng (nc b4 b4.size (kk _ _ _)) g5 bm ak;clear kk g5 B4 B64 ho4 b4;go_wp2_with fail;refine oP rfl (w.heap.size + 1) rfl B5 _ underlying50 rfl oy rfl ?_;exact ⟨_, _, _, _, _, _, _, _, _, rfl, b5, fun w'' hA => AI.out w'' w3.heap.size (w3.heap.size + 1 + 1) A' c' (hA.oL Bq ak) (fun _ => hA.oL Br ak) (ON.out w'' lo2 A' c' (hA.own hlo ho5))⟩
theorem DG {m : List UInt8} {p : Nat} {x : Int} (h : nameAt m p = .error x) : x ≠ 0 := by
 rcases u6 m p with ⟨l, n, h1, h2, h3⟩ | ⟨e, h1, h2, h3⟩
 ·rw [h2] at h; cases h
 ·rw [h2] at h; injection h with h; subst h; exact h3.ne
theorem AL {m : List UInt8} {p : Nat} {x : Int} (h : tE m p = .error x) : x ≠ 0 := by
 rcases ug m p with ⟨l, n, h1, h2, h3⟩ | ⟨e, h1, h2, h3, h4⟩
 ·rw [h2] at h; cases h
 ·rw [h2] at h; injection h with h; subst h; exact h4.ne
theorem uI {m : List UInt8} {k p : Nat} {x : Int} (h : qA m k p = .error x) : x ≠ 0 := by
 unfold qA at h;split at h
 ·exact lr
 ·cases h
theorem MB {m : List UInt8} {p : Nat} {x : Int} (h : qP m p = .error x) : x ≠ 0 := by
 unfold qP at h;cases h1 : tE m p with
 | error e => rw [h1] at h; injection h with h; subst h; exact AL h1
 | ok y =>
  rw [h1] at h; simp only at h;split at h
  ·cases h
  ·exact lr
theorem Ss {m : List UInt8} {a n : Nat} {ty cl x : Int} (h : rJ m a n ty cl = .error x) : x ≠ 0 := by
 unfold rJ at h;split at h
 ·
  split at h
  ·cases h
  ·exact lr
 split at h
 ·
  split at h
  ·cases h
  ·exact lr
 split at h
 ·exact mu
 split at h
 ·
  split at h
  ·exact lr
  ·exact mu
 split at h
 ·
  split at h
  ·rename_i ht; injection h with h; subst h; exact AL ht
  ·
   split at h
   ·rename_i ht; injection h with h; subst h; exact AL ht
   ·
    split at h
    ·cases h
    ·exact lr
 ·cases h
theorem JD {m : List UInt8} {p : Nat} {x : Int} (h : qt m p = .error x) : x ≠ 0 := by
 unfold qt at h;cases h1 : nameAt m p with
 | error e => rw [h1] at h; injection h with h; subst h; exact DG h1
 | ok y =>
 rw [h1] at h; simp only at h;cases h2 : qA m 2 y.2 with
 | error e => rw [h2] at h; injection h with h; subst h; exact uI h2
 | ok z =>
 rw [h2] at h; simp only at h;cases h3 : qA m 2 z.2 with
 | error e => rw [h3] at h; injection h with h; subst h; exact uI h3
 | ok u => rw [h3] at h; cases h
theorem Pt {m : List UInt8} {p : Nat} {x : Int} (h : recAt m p = .error x) : x ≠ 0 := by
 unfold recAt at h;cases h1 : nameAt m p with
 | error e => rw [h1] at h; injection h with h; subst h; exact DG h1
 | ok y =>
 rw [h1] at h; simp only at h;cases h2 : qA m 2 y.2 with
 | error e => rw [h2] at h; injection h with h; subst h; exact uI h2
 | ok z =>
 rw [h2] at h; simp only at h;cases h3 : qA m 2 z.2 with
 | error e => rw [h3] at h; injection h with h; subst h; exact uI h3
 | ok u =>
 rw [h3] at h; simp only at h;cases h4 : qA m 4 u.2 with
 | error e => rw [h4] at h; injection h with h; subst h; exact uI h4
 | ok v =>
 rw [h4] at h; simp only at h;cases h5 : qA m 2 v.2 with
 | error e => rw [h5] at h; injection h with h; subst h; exact uI h5
 | ok t =>
 rw [h5] at h; simp only at h;split at h
 ·exact lr
 ·
  split at h
  ·rename_i hg; injection h with h; subst h; exact Ss hg
  ·cases h
theorem xT {α : Type} {g : Nat -> Except Int (α × Nat)} (hg : ∀ p x, g p = .error x -> x ≠ 0) : ∀ (k p : Nat) (x : Int), oD g k p = .error x -> x ≠ 0
 | 0, p, x, h => by unfold oD at h; cases h
 | k + 1, p, x, h => by
  unfold oD at h;cases h1 : g p with
  | error e => rw [h1] at h; injection h with h; subst h; exact hg _ _ h1
  | ok y =>
  rw [h1] at h; simp only at h;cases h2 : oD g k y.2 with
  | error e => rw [h2] at h; injection h with h; subst h; exact xT hg _ _ _ h2
  | ok z => rw [h2] at h; cases h
theorem St {m : List UInt8} {x : Int} (h : qR m = .error x) : x ≠ 0 := by
 have hq := fun p x => JD (m := m) (p := p) (x := x)
 have hr := fun p x => Pt (m := m) (p := p) (x := x)
 unfold qR at h;split at h
 ·exact lr
 split at h
 ·exact lr
 cases h1 : oD (qt m) (sm m 4) 12 with
 | error e => rw [h1] at h; injection h with h; subst h; exact xT hq _ _ _ h1
 | ok y =>
 rw [h1] at h; simp only at h;cases h2 : oD (recAt m) (sm m 6) y.2 with
 | error e => rw [h2] at h; injection h with h; subst h; exact xT hr _ _ _ h2
 | ok z =>
 rw [h2] at h; simp only at h;cases h3 : oD (recAt m) (sm m 8) z.2 with
 | error e => rw [h3] at h; injection h with h; subst h; exact xT hr _ _ _ h3
 | ok u =>
 rw [h3] at h; simp only at h;cases h4 : oD (recAt m) (sm m 10) u.2 with
 | error e => rw [h4] at h; injection h with h; subst h; exact xT hr _ _ _ h4
 | ok v =>
 rw [h4] at h; simp only at h;split at h
 ·exact lr
 ·cases h
end Go.Proofs.YthnbcmlnpdabhaaGreat
