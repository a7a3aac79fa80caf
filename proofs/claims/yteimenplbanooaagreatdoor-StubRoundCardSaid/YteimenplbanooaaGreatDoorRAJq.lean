/-
  What octets say, plainly: names, numbers, records' data, questions, records, messages.
-/
import Derived.Test.YteimenplbanooaaGreatDoorRAIq
import Derived.Test.YteimenplbanooaaGreatDoorRAGq
namespace Go.Proofs.YteimenplbanooaaGreatDoor
open _root_.Go.Proofs.Tryz
set_option linter.unusedVariables false
set_option linter.unusedSimpArgs false
def nameAt (m : List UInt8) (p : Nat) : Except Int (List (List UInt8) × Nat) := match pget m p with
 | .ok l n => .ok (l, n)
 | .err e => .error e
 | .go _ => .error 0
def nameE (m : List UInt8) (p : Nat) : Except Int (List (List UInt8) × Nat) := match nameAt m p with
 | .ok x => .ok x
 | .error e => .error (if e = 1 then 5 else e)
def numAt (m : List UInt8) (k p : Nat) : Except Int (Nat × Nat) := if m.length < p + k then .error 1 else .ok (numB ((m.take (p + k)).drop p), p + k)
def targAt (s : List UInt8) (p : Nat) : Except Int (List (List UInt8)) := match nameE s p with
 | .error e => .error e
 | .ok (l, q) => if q = s.length then .ok l else .error 5
def numsAt (s : List UInt8) (p : Nat) : List Int := [(numB ((s.drop p).take 4) : Int), (numB ((s.drop (p + 4)).take 4) : Int), (numB ((s.drop (p + 8)).take 4) : Int), (numB ((s.drop (p + 12)).take 4) : Int), (numB ((s.drop (p + 16)).take 4) : Int)]
def getR (m : List UInt8) (a n : Nat) (ty cl : Int) : Except Int RR :=
 if kindR ty cl = 1 then (if n = 4 then .ok { RR.zero with ad := ⟨4, (m.take (a + n)).drop a ++ List.replicate 12 0, 0⟩ } else .error 5)
 else if kindR ty cl = 28 then (if n = 16 then .ok { RR.zero with ad := ⟨6, (m.take (a + n)).drop a, 0⟩ } else .error 5)
 else if kindR ty cl = 5 ∨ kindR ty cl = 12 then (match targAt (m.take (a + n)) a with
  | .error e => .error e
  | .ok l => .ok { RR.zero with tg := l })
 else if kindR ty cl = 33 then (if n < 6 then .error 5 else match targAt (m.take (a + n)) (a + 6) with
  | .error e => .error e
  | .ok l => .ok { RR.zero with pri := numB (((m.take (a + n)).drop a).take 2), we := numB ((((m.take (a + n)).drop a).drop 2).take 2), po := numB ((((m.take (a + n)).drop a).drop 4).take 2), tg := l })
 else if kindR ty cl = 6 then (match nameE (m.take (a + n)) a with
  | .error e => .error e
  | .ok (l, p) => match nameE (m.take (a + n)) p with
   | .error e => .error e
   | .ok (l', q) => if q + 20 = (m.take (a + n)).length then .ok { RR.zero with tg := l, ml := l', nums := numsAt (m.take (a + n)) q } else .error 5)
 else .ok { RR.zero with raw := (m.take (a + n)).drop a }
def questAt (m : List UInt8) (p : Nat) : Except Int (Qn × Nat) := match nameAt m p with
 | .error e => .error e
 | .ok (n, p) => match numAt m 2 p with
  | .error e => .error e
  | .ok (ty, p) => match numAt m 2 p with
   | .error e => .error e
   | .ok (cl, p) => .ok (⟨n, ty, cl⟩, p)
def recAt (m : List UInt8) (p : Nat) : Except Int (RR × Nat) := match nameAt m p with
 | .error e => .error e
 | .ok (n, p) => match numAt m 2 p with
  | .error e => .error e
  | .ok (ty, p) => match numAt m 2 p with
   | .error e => .error e
   | .ok (cl, p) => match numAt m 4 p with
    | .error e => .error e
    | .ok (ttl, p) => match numAt m 2 p with
     | .error e => .error e
     | .ok (sz, p) => if m.length < p + sz then .error 1 else match getR m p sz ty cl with
      | .error e => .error e
      | .ok r => .ok ({ r with name := n, ty := ty, cl := cl, ttl := ttl }, p + sz)
def manyAt {α : Type} (f : Nat → Except Int (α × Nat)) : Nat → Nat → Except Int (List α × Nat)
 | 0, p => .ok ([], p)
 | k + 1, p => match f p with
  | .error e => .error e
  | .ok (x, p) => match manyAt f k p with
   | .error e => .error e
   | .ok (l, p) => .ok (x :: l, p)
def decM (m : List UInt8) : Except Int Msg :=
 if 65535 < m.length then .error 3
 else if m.length < 12 then .error 1
 else match manyAt (questAt m) (at2 m 4) 12 with
  | .error e => .error e
  | .ok (q, p) => match manyAt (recAt m) (at2 m 6) p with
   | .error e => .error e
   | .ok (a, p) => match manyAt (recAt m) (at2 m 8) p with
    | .error e => .error e
    | .ok (u, p) => match manyAt (recAt m) (at2 m 10) p with
     | .error e => .error e
     | .ok (x, p) => if p < m.length then .error 2 else .ok ⟨hdOf (at2 m 0) (at2 m 2), q, a, u, x⟩
open Go.RowKit
set_option maxRecDepth 100000
def Rows (w : World) : List (List Value) → List RR → Prop
 | [], [] => True
 | cs :: css, r :: l => RRis w cs r ∧ Rows w css l
 | _, _ => False
def NmO (w : World) (v : Value) (n : List (List UInt8)) : Prop := Txts w v n ∧ checkN n = 0
def Stays (w w' : World) : Prop := ∀ v n, Txts w v n → Txts w' v n
theorem Stays.below {w w' : World} (h : Below w.heap.size w w') : Stays w w' := fun _ _ x => x.below h
theorem Stays.blk {w w' : World} {k : Nat} {t : TypeId} {cs : List Value} (hg : w.grownBy w' (some k)) (hk : Blk w k t cs) (ht : t ≠ 9) : Stays w w' := fun _ _ x => x.grown hg hk ht
theorem Stays.own {w w' : World} {B : Nat} {e : TypeId} {s n : Nat} {v : Value} {xs : List Value} (h : w.ownsRow B e s v n xs) (hne : 9 ≠ e) (hg : w.grownBy w' v.ownBlock) : Stays w w' := fun _ _ x => own_own x h hne hg
theorem NmO.stays {w w' : World} {v : Value} {n : List (List UInt8)} (h : NmO w v n) (k : Stays w w') : NmO w' v n := ⟨k _ _ h.1, h.2⟩
theorem NmO.form {w : World} {v : Value} {n : List (List UInt8)} (h : NmO w v n) : ∃ A c, v = .slice A n.length c ∧ NmR w A c n := by
 obtain ⟨A, c, h1, h2, h3⟩ := h.1.form
 obtain ⟨h4, h5⟩ := checkN_ok h.2
 have h6 := lsum_ge n
 exact ⟨A, c, h1, h2, h3, by omega, fun l hl => by have := h4 l hl; omega⟩
def RRown (w : World) (cs : List Value) (r : RR) : Prop := ∃ vn vt vm, cs = rrC vn vt vm r ∧ r.wf ∧ NmO w vn r.name ∧ NmO w vt r.tg ∧ NmO w vm r.ml ∧ r.raw.length ≤ 140737488355328
theorem RRown.stays {w w' : World} {cs : List Value} {r : RR} (h : RRown w cs r) (k : Stays w w') : RRown w' cs r := by
 obtain ⟨vn, vt, vm, h1, h2, h3, h4, h5, h6⟩ := h
 exact ⟨vn, vt, vm, h1, h2, h3.stays k, h4.stays k, h5.stays k, h6⟩
theorem RRown.is {w : World} {cs : List Value} {r : RR} (h : RRown w cs r) : RRis w cs r := by
 obtain ⟨vn, vt, vm, h1, h2, h3, h4, h5, h6⟩ := h
 obtain ⟨An, cn, rfl, n3⟩ := h3.form
 obtain ⟨At, ct, rfl, n4⟩ := h4.form
 obtain ⟨Am, cm, rfl, n5⟩ := h5.form
 exact ⟨An, cn, At, ct, Am, cm, h1, h2, n3, n4, n5, h6⟩
def Qown (w : World) (cs : List Value) (q : Qn) : Prop := ∃ vn, cs = qC vn q ∧ NmO w vn q.name
theorem Qown.stays {w w' : World} {cs : List Value} {q : Qn} (h : Qown w cs q) (k : Stays w w') : Qown w' cs q := by obtain ⟨vn, h1, h2⟩ := h; exact ⟨vn, h1, h2.stays k⟩
def Each {α : Type} (R : List Value → α → Prop) : List (List Value) → List α → Prop
 | [], [] => True
 | cs :: css, r :: l => R cs r ∧ Each R css l
 | _, _ => False
section
variable {α : Type} {R R' : List Value → α → Prop}
theorem Each.app1 {cs : List Value} {x : α} (hx : R cs x) : ∀ {css : List (List Value)} {l : List α}, Each R css l → Each R (css ++ [cs]) (l ++ [x])
 | [], [], _ => ⟨hx, trivial⟩
 | _ :: _, _ :: _, h => ⟨h.1, Each.app1 hx h.2⟩
theorem Each.mono (hm : ∀ cs x, R cs x → R' cs x) : ∀ {css : List (List Value)} {l : List α}, Each R css l → Each R' css l
 | [], [], _ => trivial
 | _ :: _, _ :: _, h => ⟨hm _ _ h.1, Each.mono hm h.2⟩
theorem Each.get {k : Nat} (hk : ∀ cs x, R cs x → cs.length = k) : ∀ {css : List (List Value)} {l : List α}, Each R css l → ∀ (rest : List Value) (i : Nat) (hi : i < l.length), ∃ cs, ((css.flatten ++ rest).drop (i * k)).take k = cs ∧ R cs l[i]
 | [], [], _, _, i, hi => absurd hi (by simp)
 | cs :: css, r :: l, h, rest, 0, hi => by
  refine ⟨cs, ?_, h.1⟩
  simp only [List.flatten_cons, Nat.zero_mul, List.drop_zero, List.append_assoc]
  exact List.take_left' (hk _ _ h.1)
 | cs :: css, r :: l, h, rest, i + 1, hi => by
  obtain ⟨ck, h1, h2⟩ := Each.get hk h.2 rest i (by simpa using hi)
  refine ⟨ck, ?_, by simpa using h2⟩
  rw [← h1]
  simp only [List.flatten_cons, List.append_assoc]
  rw [show (i + 1) * k = cs.length + i * k by rw [hk _ _ h.1, Nat.succ_mul, Nat.add_comm], ← List.drop_drop, List.drop_left]
def LOwn (w : World) (B : Nat) (e : TypeId) (k : Nat) (R : List Value → α → Prop) (v : Value) (l : List α) : Prop := ∃ css, w.ownsRow B e k v l.length css.flatten ∧ Each R css l
theorem LOwn.form {w : World} {B : Nat} {e : TypeId} {k : Nat} {v : Value} {l : List α} (h : LOwn w B e k R v l) : ∃ A c, v = .slice A l.length c := by
 obtain ⟨css, h1, _⟩ := h; exact own_form h1
theorem LOwn.at_ {w : World} {B : Nat} {e : TypeId} {k : Nat} {A : Option Addr} {c : Nat} {l : List α} (hk : ∀ cs x, R cs x → cs.length = k) (h : LOwn w B e k R (.slice A l.length c) l) (hp : 0 < l.length) :
  ∃ g, A = some ⟨g, 0, none⟩ ∧ g < w.heap.size ∧ ∀ i (hi : i < l.length), ∃ cs, w.rangeAt g (0 + i * k) cs ∧ R cs l[i] := by
 obtain ⟨css, hown, hr⟩ := h
 rcases hown.2 with ⟨_, h0⟩ | ⟨g, cap, cur, hv, hB, hg, hc, hm, hs, ht⟩
 ·
  omega
 ·
  injection hv with h1 h2 h3
  have hcl : cur.toList.length = cur.size := by simp
  have htk : cur.toList = css.flatten ++ cur.toList.drop (l.length * k) := by rw [← ht, List.take_append_drop]
  have hb : Blk w g e cur.toList := hg
  have hle : l.length * k ≤ cur.toList.length := by rw [hcl, hs]; exact Nat.mul_le_mul_right _ hc
  refine ⟨g, h1, hb.lt, fun i hi => ?_⟩
  obtain ⟨cs, e1, e2⟩ := hr.get hk (cur.toList.drop (l.length * k)) i hi
  rw [← htk] at e1
  refine ⟨cs, ?_, e2⟩
  rw [← e1, Nat.zero_add]
  have h4 : (i + 1) * k ≤ l.length * k := Nat.mul_le_mul_right _ hi
  rw [Nat.succ_mul] at h4
  exact hb.range (i * k) k (by omega)
end
abbrev RRsOwn (w : World) (B : Nat) (v : Value) (l : List RR) : Prop := LOwn w B 96 33 (RRown w) v l
abbrev QsOwn (w : World) (B : Nat) (v : Value) (l : List Qn) : Prop := LOwn w B 218 3 (Qown w) v l
theorem RRown.len {w : World} {cs : List Value} {r : RR} (h : RRown w cs r) : cs.length = 33 := h.is.len
theorem RRown.one {w : World} {cs : List Value} {r : RR} (h : RRown w cs r) : ∀ v ∈ cs, v.oneCell' = true := h.is.one
theorem RRsOwn.nil (w : World) (B : Nat) : RRsOwn w B (.slice none 0 0) [] := ⟨[], World.ownsRow_nil _ _ _ _, trivial⟩
theorem QsOwn.nil (w : World) (B : Nat) : QsOwn w B (.slice none 0 0) [] := ⟨[], World.ownsRow_nil _ _ _ _, trivial⟩
theorem LOwn.stays {α : Type} {w w' : World} {B : Nat} {e : TypeId} {k : Nat} {R R' : List Value → α → Prop} {v : Value} {l : List α} (h : LOwn w B e k R v l) (hr : ∀ xs, w.ownsRow B e k v l.length xs → w'.ownsRow B e k v l.length xs) (hm : ∀ cs x, R cs x → R' cs x) : LOwn w' B e k R' v l := by
 obtain ⟨css, h1, h2⟩ := h
 exact ⟨css, hr _ h1, h2.mono hm⟩
theorem RRsOwn.below {w w' : World} {B : Nat} {v : Value} {l : List RR} (h : RRsOwn w B v l) (hb : Below w.heap.size w w') : RRsOwn w' B v l := h.stays (fun _ x => own_below x hb) (fun _ _ x => x.stays (Stays.below hb))
theorem QsOwn.below {w w' : World} {B : Nat} {v : Value} {l : List Qn} (h : QsOwn w B v l) (hb : Below w.heap.size w w') : QsOwn w' B v l := h.stays (fun _ x => own_below x hb) (fun _ _ x => x.stays (Stays.below hb))
theorem own_blk {w w' : World} {B g : Nat} {e t : TypeId} {s n : Nat} {v : Value} {xs cs : List Value} (h : w.ownsRow B e s v n xs) (hg : w.grownBy w' (some g)) (hb : Blk w g t cs) (ht : t ≠ e) : w'.ownsRow B e s v n xs := by
 refine World.ownsRow.kept h hg ?_
 cases hv : v.ownBlock with
 | none => exact .inl rfl
 | some k =>
  refine .inr ?_
  intro he
  injection he with he
  subst he
  rcases h.2 with ⟨rfl, _⟩ | ⟨g', cap, cur, rfl, _, hh, _⟩
  ·
   simp [Value.ownBlock] at hv
  ·
   have : g' = k := by simpa [Value.ownBlock] using hv
   subst this
   unfold Blk at hb
   rw [hh] at hb
   injection hb with hb
   injection hb with _ he
   exact ht he.symm
theorem RRsOwn.blk {w w' : World} {B g : Nat} {t : TypeId} {cs : List Value} {v : Value} {l : List RR} (h : RRsOwn w B v l) (hg : w.grownBy w' (some g)) (hb : Blk w g t cs) (h1 : t ≠ 96) (h2 : t ≠ 9) : RRsOwn w' B v l := h.stays (fun _ x => own_blk x hg hb h1) (fun _ _ x => x.stays (Stays.blk hg hb h2))
theorem QsOwn.blk {w w' : World} {B g : Nat} {t : TypeId} {cs : List Value} {v : Value} {l : List Qn} (h : QsOwn w B v l) (hg : w.grownBy w' (some g)) (hb : Blk w g t cs) (h1 : t ≠ 218) (h2 : t ≠ 9) : QsOwn w' B v l := h.stays (fun _ x => own_blk x hg hb h1) (fun _ _ x => x.stays (Stays.blk hg hb h2))
def MsgOwn (w : World) (cs : List Value) (m : Msg) : Prop := ∃ vq va vu ve, cs = msgC m.hd vq va vu ve ∧ QsOwn w 0 vq m.qs ∧ RRsOwn w 0 va m.an ∧ RRsOwn w 0 vu m.au ∧ RRsOwn w 0 ve m.ex ∧ m.qs.length ≤ 65535 ∧ m.an.length ≤ 65535 ∧ m.au.length ≤ 65535 ∧ m.ex.length ≤ 65535
theorem MsgOwn.below {w w' : World} {cs : List Value} {m : Msg} (h : MsgOwn w cs m) (hb : Below w.heap.size w w') : MsgOwn w' cs m := by
 obtain ⟨vq, va, vu, ve, h1, h2, h3, h4, h5, l⟩ := h
 exact ⟨vq, va, vu, ve, h1, h2.below hb, h3.below hb, h4.below hb, h5.below hb, l⟩
def Msg.zero : Msg := ⟨Hd.zero, [], [], [], []⟩
def msgZ : List Value := msgC Hd.zero nilS nilS nilS nilS
theorem MsgOwn.zero (w : World) : MsgOwn w msgZ Msg.zero := ⟨nilS, nilS, nilS, nilS, rfl, QsOwn.nil w 0, RRsOwn.nil w 0, RRsOwn.nil w 0, RRsOwn.nil w 0, by simp [Msg.zero], by simp [Msg.zero], by simp [Msg.zero], by simp [Msg.zero]⟩
def strs (n : List (List UInt8)) : List Value := n.map fun t => Value.string (bs t)
theorem strs_len (n : List (List UInt8)) : (strs n).length = n.length := by simp [strs]
theorem strs_one (n : List (List UInt8)) : ∀ v ∈ strs n, v.oneCell' = true := by
 intro v hv
 obtain ⟨b, _, rfl⟩ := List.mem_map.1 hv; rfl
theorem run_appT (w : World) (ty : TypeId) (B : Nat) (v : Value) (n : Nat) (xs : List Value) (hown : w.ownsRow B 9 1 v n xs) (hB : B ≤ w.heap.size) (A : Option Addr) (m c : Nat) (news : List Value) (hn : 0 < m → ∃ b off, A = some ⟨b, off, none⟩ ∧ w.rangeAt b off news) (hl : news.length = m) (h1 : ∀ u ∈ news, u.oneCell' = true) (hb : n + m ≤ 300000) :
  ∃ v' w', (Builtin.append_ #[81, 81] ty #[v, .slice A m c]).run prog w = .ok v' w' ∧ w'.ownsRow B 9 1 v' (n + m) (xs ++ news) ∧ w.grownBy w' v.ownBlock := by
 obtain ⟨i, hi, hz, hsize, hby⟩ := info_parts strInfo
 by_cases hm : 0 < m
 ·
  obtain ⟨b, off, rfl, hr⟩ := hn hm
  obtain ⟨v', w', hr, h2, h3, _, h5⟩ := run_append_own_at (P := prog) w B 81 ty 9 i _ 1 16 underlying81 hi hz hsize hby rfl (by omega) v n xs hown ⟨b, off, none⟩ m c news (by omega) (fun j u hu => by
   have hadd : (⟨b, off, none⟩ : Addr).add j = ⟨b, off + j, none⟩ := by unfold Addr.add; split <;> simp_all
   rw [hadd]; exact hr j u hu) h1 (by simp only [maxLen]; omega) (by omega) hB
  exact ⟨v', w', hr, h2, h3⟩
 ·
  obtain rfl : m = 0 := by omega
  have hnil : news = [] := List.length_eq_zero_iff.1 (by omega)
  subst hnil
  have hv : ∃ A' c', v = .slice A' n c' ∧ n ≤ c' := by
   rcases hown.2 with ⟨rfl, rfl⟩ | ⟨g, cap, cur, rfl, _, _, hc, _⟩
   ·
    exact ⟨none, 0, rfl, Nat.le_refl _⟩
   ·
    exact ⟨_, _, rfl, hc⟩
  obtain ⟨A', c', rfl, hcap⟩ := hv
  refine ⟨.slice A' n c', w, ?_, by simpa using hown, World.grownBy.refl _ _⟩
  cases A with
  | none => cases A' <;> simp [Builtin.append_, run_underlying underlying81, sizeOf, typeInfo, hi, hsize, Builtin.lenOf, hcap, Builtin.firstCells, storeCells]
  | some ad =>
   have hl0 : (loadCells ad 0).run prog w = .ok #[] w := rfl
   cases A' <;> simp [hl0, Builtin.append_, run_underlying underlying81, sizeOf, typeInfo, hi, hsize, Builtin.lenOf, hcap, Builtin.firstCells, storeCells]
theorem wpList_appT (w : World) {ops : Array Oper} {rest : List Oper} {o : Oper} {a : Act} {Q : Exit → Act → World → Prop} (hgd : o.guard = none) (s x : Operand)
  (ho : o.op = .call { callee := .builtin .append, args := #[s, x], argTypes := #[81, 81] })
  (B : Nat) (v : Value) (n : Nat) (xs : List Value) (hs : a.eval s = v) (hown : w.ownsRow B 9 1 v n xs) (hB : B ≤ w.heap.size) (A : Option Addr) (m c : Nat) (news : List Value) (hx : a.eval x = .slice A m c)
  (hn : 0 < m → ∃ b off, A = some ⟨b, off, none⟩ ∧ w.rangeAt b off news) (hl : news.length = m) (h1 : ∀ u ∈ news, u.oneCell' = true) (hb : n + m ≤ 300000) (k : Nat) (hk : k = n + m)
  (h : ∀ A' c' w', w'.ownsRow B 9 1 (.slice A' k c') k (xs ++ news) → w.grownBy w' v.ownBlock → wpList prog ops Q rest (a.put o.dst (.slice A' k c')) w') :
  wpList prog ops Q (o :: rest) a w := by
 subst hk
 refine wpList_plain hgd fun K hK => ?_
 obtain ⟨v', w', hr, h2, h3⟩ := run_appT w o.type B v n xs hown hB A m c news hn hl h1 hb
 obtain ⟨A', c', rfl⟩ := own_form h2
 unfold Oper.wp execOp
 simp only [ho, resolve, invoke, builtin, Sem.run_bind, Sem.run_pure, Result.andThen_ok, List.map_toArray, List.map_cons, List.map_nil, hs, hx, hr]
 exact hK _ _ (h A' c' w' h2 h3)
theorem NmR.range {w : World} {A : Option Addr} {c : Nat} {n : List (List UInt8)} (h : NmR w A c n) : 0 < n.length → ∃ b off, A = some ⟨b, off, none⟩ ∧ w.rangeAt b off (strs n) := by
 intro hp
 obtain ⟨b, off, h1, h2, h3⟩ := h.1 hp
 refine ⟨b, off, h1, fun j v hv => ?_⟩
 have hj : j < n.length := by have := (List.getElem?_eq_some_iff.1 hv).1; simpa [strs] using this
 rw [h3 j hj, ← hv]
 simp [strs, hj]
theorem own_empty (w : World) (B : Nat) (hB : B ≤ w.heap.size) : (w.alloc (.cells #[] 9)).ownsRow B 9 1 (.slice (some ⟨w.heap.size, 0, none⟩) 0 0) 0 [] := by
 refine ⟨rfl, .inr ⟨w.heap.size, 0, #[], rfl, hB, heap_alloc_new w _, Nat.le_refl _, by simp [maxLen], rfl, rfl⟩⟩
theorem eq_nilS (A : Option Addr) (n c : Nat) (w : World) : (binOp BinOp.eql 81 (.slice A n c) (.slice none 0 0)).run prog w = .ok (.bool A.isNone) w := by
 cases A <;> kernel_rfl
def CloneRet (n : List (List UInt8)) (w : World) (e : Ending) (w' : World) : Prop := ∃ A c, e = .returned (.slice A n.length c) ∧ w'.ownsRow w.heap.size 9 1 (.slice A n.length c) n.length (strs n) ∧ Below w.heap.size w w'
theorem clone_any (A : Option Addr) (c : Nat) (n : List (List UInt8)) (w : World) (hA : NmR w A c n) (hn : n.length ≤ 100000) :
  Calls prog 125 #[.slice A n.length c] w (CloneRet n w) := by
 cases A with
 | none =>
  have h0 : n = [] := by
   cases n with
   | nil => rfl
   | cons x n => obtain ⟨b, off, h, _⟩ := hA.1 (by simp); cases h
  subst h0
  have EN := eq_nilS none 0 c
  go_enter func125, ntmps125
  go_wp2_with fail
  go_ret
  exact ⟨none, 0, rfl, World.ownsRow_nil _ _ _ _, Below.refl _ _⟩
 | some ad =>
  have RG := Hh (fun w' (b : Below w.heap.size w w') => (hA.below b).range)
  clear hA
  have EN := eq_nilS (some ad) n.length c
  have kb : Below w.heap.size w (w.alloc (.cells #[] 9)) := (Below.refl _ _).alloc (Nat.le_refl _) _
  go_enter func125, ntmps125
  go_wp2_with (at_builtin; go_must (refine wpList_appT _ rfl (.tmp 5) (.tmp 6) rfl w.heap.size _ 0 [] rfl (own_empty w _ (Nat.le_refl _)) kb.size (some ad) n.length c (strs n) rfl (RG.out _ kb) (strs_len n) (strs_one n) (by omega) n.length (by omega) ?_))
  intro A' c' w' ho hg
  have HB : Below w.heap.size w w' := kb.grown hg kb.size (fun k hk => by simp [Value.ownBlock] at hk; omega)
  go_wp2_with fail
  go_ret
  exact ⟨A', c', rfl, by simpa using ho, HB⟩
def optR : RR := { RR.zero with ty := 41, cl := 1232 }
def askH (id : Int) : Hd := { Hd.zero with id := id, rd := true }
def askM (q : Qn) (id : Int) (edns : Bool) : Msg := ⟨askH id, [q], [], [], if edns then [optR] else []⟩
def Above (lo : Nat) (w w' : World) : Prop := w.heap.size ≤ w'.heap.size ∧ ∀ i, lo ≤ i → i < w.heap.size → w'.heap[i]? = w.heap[i]?
theorem Above.refl (lo : Nat) (w : World) : Above lo w w := ⟨Nat.le_refl _, fun _ _ _ => rfl⟩
theorem Above.blk {lo : Nat} {w w' : World} (h : Above lo w w') {g : Nat} {t : TypeId} {cs : List Value} (hb : Blk w g t cs) (hg : lo ≤ g) : Blk w' g t cs := (h.2 g hg hb.lt).trans hb
theorem Above.own {lo B : Nat} {w w' : World} (h : Above lo w w') (hB : lo ≤ B) {e : TypeId} {s n : Nat} {v : Value} {xs : List Value} (ho : w.ownsRow B e s v n xs) : w'.ownsRow B e s v n xs := by
 refine ⟨ho.1, ?_⟩
 rcases ho.2 with hn | ⟨g, cap, cur, hv, hb, hh, rest⟩
 ·
  exact .inl hn
 ·
  exact .inr ⟨g, cap, cur, hv, hb, (h.2 g (Nat.le_trans hB hb) (heap_lt hh)).trans hh, rest⟩
theorem own_zero {B : Nat} {w : World} {e : TypeId} {s n : Nat} {v : Value} {xs : List Value} (ho : w.ownsRow B e s v n xs) : w.ownsRow 0 e s v n xs := by
 refine ⟨ho.1, ?_⟩
 rcases ho.2 with hn | ⟨g, cap, cur, hv, hb, hh, rest⟩
 ·
  exact .inl hn
 ·
  exact .inr ⟨g, cap, cur, hv, Nat.zero_le _, hh, rest⟩
theorem own_nm {B : Nat} {w : World} {A : Option Addr} {c : Nat} {n : List (List UInt8)} (ho : w.ownsRow B 9 1 (.slice A n.length c) n.length (strs n)) (h1 : n.length ≤ 17592186044416) (h2 : ∀ l ∈ n, l.length ≤ 140737488355328) : NmR w A c n := by
 have hT : Txts w (.slice A n.length c) n := own_zero ho
 obtain ⟨A', c', h3, h4, h5⟩ := hT.form
 injection h3 with e1 e2 e3
 subst e1
 subst e3
 exact ⟨h4, h5, h1, h2⟩
def AskRet (m : Msg) (w : World) (e : Ending) (w' : World) : Prop := ∃ cs Aq Aa Au Ae cq ca cu ce, e = .returned (.agg cs.toArray) ∧ Below w.heap.size w w' ∧ ∀ w'', Above w.heap.size w' w'' → MsgIs w'' cs m Aq Aa Au Ae cq ca cu ce
def optC : List Value := rrC nilS nilS nilS optR
theorem optIs (w : World) : RRis w optC optR := ⟨none, 0, none, 0, none, 0, rfl, ⟨rfl, rfl⟩, NmR.nil _, NmR.nil _, NmR.nil _, by simp [optR, RR.zero]⟩
theorem askIs {w : World} {B gq gr : Nat} {A : Option Addr} {c : Nat} {q : Qn} {id : Int} {edns : Bool} (hq : Blk w gq 218 [.slice A q.name.length c, .int .i64 q.ty, .int .i64 q.cl]) (hr : edns = true → Blk w gr 96 optC) (hN : NmR w A c q.name) :
  MsgIs w (msgC (askH id) (.slice (some ⟨gq, 0, none⟩) 1 1) nilS nilS (if edns then .slice (some ⟨gr, 0, none⟩) 1 1 else nilS)) (askM q id edns) (some ⟨gq, 0, none⟩) none none (if edns then some ⟨gr, 0, none⟩ else none) 1 0 0 (if edns then 1 else 0) := by
 refine ⟨?_, fun _ => ⟨gq, 0, rfl, hq.lt, fun i hi => ?_⟩, fun h => absurd h (by simp [askM]), fun h => absurd h (by simp [askM]), ?_, by simp [askM], by simp [askM], by simp [askM], ?_⟩
 ·
  cases edns <;> rfl
 ·
  obtain rfl : i = 0 := by simp [askM] at hi; omega
  exact ⟨A, c, hq.range 0 3 (by simp), hN⟩
 ·
  cases edns with
  | false => exact fun h => absurd h (by simp [askM])
  | true =>
   refine fun _ => ⟨gr, 0, rfl, (hr rfl).lt, fun i hi => ?_⟩
   obtain rfl : i = 0 := by simp [askM] at hi; omega
   refine ⟨optC, ?_, optIs w⟩
   have := (hr rfl).range 0 33 (by rw [show optC.length = 33 from rrC_len ⟨rfl, rfl⟩]; omega)
   rw [List.drop_zero, List.take_of_length_le (by rw [show optC.length = 33 from rrC_len ⟨rfl, rfl⟩]; omega)] at this
   exact this
 ·
  cases edns <;> simp [askM]
set_option maxHeartbeats 4000000 in
theorem askMessage_any (A : Option Addr) (c : Nat) (q : Qn) (id : Int) (edns : Bool) (w : World) (hA : NmR w A c q.name) (hn : q.name.length ≤ 100000) :
  Calls prog 269 #[.agg #[.slice A q.name.length c, .int .i64 q.ty, .int .i64 q.cl], .int .i64 id, .bool edns] w (AskRet (askM q id edns) w) := by
 have b0 : Below w.heap.size w ((w.alloc (.cells #[.slice A q.name.length c, .int .i64 q.ty, .int .i64 q.cl] 218)).alloc (.cells #[.int .i64 0, .bool false, .int .i64 0, .bool false, .bool false, .bool false, .bool false, .bool false, .bool false, .int .i64 0, .slice none 0 0, .slice none 0 0, .slice none 0 0, .slice none 0 0] 280)) := ((Below.refl _ _).alloc (Nat.le_refl _) _).alloc (by simp) _
 have B3' : Blk ((w.alloc (.cells #[.slice A q.name.length c, .int .i64 q.ty, .int .i64 q.cl] 218)).alloc (.cells #[.int .i64 0, .bool false, .int .i64 0, .bool false, .bool false, .bool false, .bool false, .bool false, .bool false, .int .i64 0, .slice none 0 0, .slice none 0 0, .slice none 0 0, .slice none 0 0] 280)) w.heap.size 218 [.slice A q.name.length c, .int .i64 q.ty, .int .i64 q.cl] := (Blk.new w 218 [.slice A q.name.length c, .int .i64 q.ty, .int .i64 q.cl]).alloc _
 have B6' : Blk ((w.alloc (.cells #[.slice A q.name.length c, .int .i64 q.ty, .int .i64 q.cl] 218)).alloc (.cells #[.int .i64 0, .bool false, .int .i64 0, .bool false, .bool false, .bool false, .bool false, .bool false, .bool false, .int .i64 0, .slice none 0 0, .slice none 0 0, .slice none 0 0, .slice none 0 0] 280)) (w.heap.size + 1) 280 msgZ := Blk.new' _ _ msgZ _ (by simp)
 have CL := Hh (clone_any A c q.name _ (hA.below b0) hn)
 have hb1 := hA.2.2.1
 have hb2 := hA.2.2.2
 have AI := Hh (fun (w : World) (gq gr : Nat) (A : Option Addr) (c : Nat) => @askIs w 0 gq gr A c q id edns)
 have ON := Hh (fun (w : World) (B : Nat) (A : Option Addr) (c : Nat) (ho : w.ownsRow B 9 1 (.slice A q.name.length c) q.name.length (strs q.name)) => own_nm ho hb1 hb2)
 clear hA hn hb1 hb2
 generalize askM q id edns = M at *
 generalize q.ty = ty at *
 generalize q.cl = cl at *
 generalize q.name = nm at *
 go_enter func269, ntmps269
 go_wp2_with fail
 refine CL.out.mono ?_
 rintro _ w3 ⟨A', c', rfl, ho, k3⟩
 have B3 := B3'.below k3 B3'.lt
 have B6 := B6'.below k3 B6'.lt
 have b3 := below_then b0 b0.size k3
 have hlo : w.heap.size ≤ ((w.alloc (.cells #[.slice A nm.length c, .int .i64 ty, .int .i64 cl] 218)).alloc (.cells #[.int .i64 0, .bool false, .int .i64 0, .bool false, .bool false, .bool false, .bool false, .bool false, .bool false, .int .i64 0, .slice none 0 0, .slice none 0 0, .slice none 0 0, .slice none 0 0] 280)).heap.size := b0.size
 have hsz : w.heap.size + 2 ≤ w3.heap.size := by have := k3.size; simp at this; omega
 generalize ((w.alloc (.cells #[.slice A nm.length c, .int .i64 ty, .int .i64 cl] 218)).alloc (.cells #[.int .i64 0, .bool false, .int .i64 0, .bool false, .bool false, .bool false, .bool false, .bool false, .bool false, .int .i64 0, .slice none 0 0, .slice none 0 0, .slice none 0 0, .slice none 0 0] 280)).heap.size = lo2 at *
 clear CL B3' B6' b0 k3
 go_wp2_with (refine at_op (.store 81 (.tmp 11) (.tmp 10)) rfl ?_; go_must (refine wpList_stC rfl 81 (.tmp 11) (.tmp 10) rfl w.heap.size 0 rfl (.slice A' nm.length c') rfl B3 (by simp) nameInfo1 rfl rfl ?_))
 intro w4 B4 g4 s4
 have B64 := B6.grown g4 (by simp)
 have ho4 := own_blk ho g4 B3 (by decide)
 have b4 := below_grown b3 g4 b3.size (Nat.le_refl _)
 clear B3 B6 ho g4 b3
 cases edns with
 | false =>
  go_wp2_with (first
   | (refine at_op (.load 218 (.tmp 3)) rfl ?_; go_must (refine wpList_ldB rfl _ _ rfl w.heap.size 0 rfl B4 3 (by simp) _ underlying218 rfl qInfo [.slice A' nm.length c', .int .i64 ty, .int .i64 cl] rfl ?_))
   | (refine at_op (.store 280 (.tmp 6) (.tmp 21)) rfl ?_; go_must (refine wpList_stB rfl _ _ _ rfl (w.heap.size + 1) 0 rfl (msgC (askH id) (.slice (some ⟨w3.heap.size, 0, none⟩) 1 1) nilS nilS nilS) rfl (Blk.alloc (Blk.alloc B64 _) _) (by rw [msgC_len, show msgZ.length = 14 from rfl]; omega) msgInfo (msgC_one _ rfl rfl rfl rfl) ?_)))
  intro w5 B5 g5 s5
  have Bq : Blk w5 w3.heap.size 218 [.slice A' nm.length c', .int .i64 ty, .int .i64 cl] := by
   refine Blk.grown ((Blk.new' w4 218 [.slice A' nm.length c', .int .i64 ty, .int .i64 cl] _ s4.symm).alloc _) g5 (by simp; omega)
  have kk : ∀ o1 o2, Below w4.heap.size w4 ((w4.alloc o1).alloc o2) := fun o1 o2 => ((Below.refl _ _).alloc (Nat.le_refl _) _).alloc (by simp) _
  have ho5 := own_blk (own_below ho4 (kk _ _)) g5 (Blk.alloc (Blk.alloc B64 _) _) (by decide)
  have b5 := below_grown (below_then b4 b4.size (kk _ _)) g5 (by have := b4.size; simp; omega) (by omega)
  clear kk g5 B4 B64 ho4 b4
  go_wp2_with fail
  refine ret_cell rfl (w.heap.size + 1) rfl B5 _ underlying280 rfl msgInfo rfl ?_
  exact ⟨_, _, _, _, _, _, _, _, _, rfl, b5, fun w'' hA => AI.out w'' w3.heap.size 0 A' c' (hA.blk Bq (by omega)) (fun h => by cases h) (ON.out w'' lo2 A' c' (hA.own hlo ho5))⟩
 | true =>
  go_wp2_with (first
   | (refine at_op (.load 218 (.tmp 3)) rfl ?_; go_must (refine wpList_ldB rfl _ _ rfl w.heap.size 0 rfl B4 3 (by simp) _ underlying218 rfl qInfo [.slice A' nm.length c', .int .i64 ty, .int .i64 cl] rfl ?_))
   | (refine at_op (.store 280 (.tmp 6) (.tmp 21)) rfl ?_; go_must (refine wpList_stB rfl _ _ _ rfl (w.heap.size + 1) 0 rfl (msgC (askH id) (.slice (some ⟨w3.heap.size, 0, none⟩) 1 1) nilS nilS (.slice (some ⟨w3.heap.size + 1 + 1, 0, none⟩) 1 1)) rfl (Blk.alloc (Blk.alloc (Blk.alloc B64 _) _) _) (by rw [msgC_len, show msgZ.length = 14 from rfl]; omega) msgInfo (msgC_one _ rfl rfl rfl rfl) ?_)))
  intro w5 B5 g5 s5
  have Bq : Blk w5 w3.heap.size 218 [.slice A' nm.length c', .int .i64 ty, .int .i64 cl] := by
   refine Blk.grown (((Blk.new' w4 218 [.slice A' nm.length c', .int .i64 ty, .int .i64 cl] _ s4.symm).alloc _).alloc _) g5 (by simp; omega)
  have Br : Blk w5 (w3.heap.size + 1 + 1) 96 optC := Blk.grown (Blk.new' _ 96 optC _ (by simp; omega)) g5 (by simp; omega)
  have kk : ∀ o1 o2 o3, Below w4.heap.size w4 (((w4.alloc o1).alloc o2).alloc o3) := fun o1 o2 o3 => (((Below.refl _ _).alloc (Nat.le_refl _) _).alloc (by simp) _).alloc (by simp; omega) _
  have ho5 := own_blk (own_below ho4 (kk _ _ _)) g5 (Blk.alloc (Blk.alloc (Blk.alloc B64 _) _) _) (by decide)
  have b5 := below_grown (below_then b4 b4.size (kk _ _ _)) g5 (by have := b4.size; simp; omega) (by omega)
  clear kk g5 B4 B64 ho4 b4
  go_wp2_with fail
  refine ret_cell rfl (w.heap.size + 1) rfl B5 _ underlying280 rfl msgInfo rfl ?_
  exact ⟨_, _, _, _, _, _, _, _, _, rfl, b5, fun w'' hA => AI.out w'' w3.heap.size (w3.heap.size + 1 + 1) A' c' (hA.blk Bq (by omega)) (fun _ => hA.blk Br (by omega)) (ON.out w'' lo2 A' c' (hA.own hlo ho5))⟩
end Go.Proofs.YteimenplbanooaaGreatDoor
