/-
  What a reading makes: names, records, questions, lists, messages of one's own.
-/
import Derived.Test.YtlmgdogblbigpaaDec
import Derived.Test.YtlmgdogblbigpaaAl
namespace Go.Proofs.Ytlmgdogblbigpaa
open Go.RowKit
set_option maxRecDepth 100000
set_option linter.unusedVariables false
set_option linter.unusedSimpArgs false

/-- A name of one's own that may be. -/
def NmO (w : World) (v : Value) (n : List (List UInt8)) : Prop := Txts w v n ∧ checkN n = 0
/-- Texts of one's own stay. -/
def Stays (w w' : World) : Prop := ∀ v n, Txts w v n → Txts w' v n
theorem Stays.refl (w : World) : Stays w w := fun _ _ h => h
theorem Stays.trans {a b c : World} (h : Stays a b) (k : Stays b c) : Stays a c := fun v n x => k v n (h v n x)
theorem Stays.below {w w' : World} (h : Below w.heap.size w w') : Stays w w' := fun _ _ x => x.below h
theorem Stays.blk {w w' : World} {k : Nat} {t : TypeId} {cs : List Value} (hg : w.grownBy w' (some k)) (hk : Blk w k t cs) (ht : t ≠ 9) : Stays w w' := fun _ _ x => x.grown hg hk ht
theorem Stays.own {w w' : World} {B : Nat} {e : TypeId} {s n : Nat} {v : Value} {xs : List Value} (h : w.ownsRow B e s v n xs) (hne : 9 ≠ e) (hg : w.grownBy w' v.ownBlock) : Stays w w' := fun _ _ x => own_own x h hne hg
theorem NmO.stays {w w' : World} {v : Value} {n : List (List UInt8)} (h : NmO w v n) (k : Stays w w') : NmO w' v n := ⟨k _ _ h.1, h.2⟩
theorem NmO.nil (w : World) : NmO w nilS [] := ⟨Txts.nil w, rfl⟩
theorem NmO.form {w : World} {v : Value} {n : List (List UInt8)} (h : NmO w v n) : ∃ A c, v = .slice A n.length c ∧ NmR w A c n := by
  obtain ⟨A, c, h1, h2, h3⟩ := h.1.form
  obtain ⟨h4, h5⟩ := checkN_ok h.2
  have h6 := lsum_ge n
  exact ⟨A, c, h1, h2, h3, by omega, fun l hl => by have := h4 l hl; omega⟩
theorem NmO.one {w : World} {v : Value} {n : List (List UInt8)} (h : NmO w v n) : v.oneCell' = true := by obtain ⟨A, c, rfl, _⟩ := h.form; rfl
theorem NmO.cells {w : World} {v : Value} {n : List (List UInt8)} (h : NmO w v n) : v.cells = #[v] := by obtain ⟨A, c, rfl, _⟩ := h.form; rfl
theorem NmO.mk' {w : World} {v : Value} {n : List (List UInt8)} (h : Txts w v n) (g : GoodN n) (s : 1 + lsum n ≤ 255) : NmO w v n := ⟨h, checkN_ok' g s⟩
/-- A record of one's own. -/
def RRown (w : World) (cs : List Value) (r : RR) : Prop := ∃ vn vt vm, cs = rrC vn vt vm r ∧ r.wf ∧ NmO w vn r.name ∧ NmO w vt r.tg ∧ NmO w vm r.ml ∧ r.raw.length ≤ 140737488355328
theorem RRown.stays {w w' : World} {cs : List Value} {r : RR} (h : RRown w cs r) (k : Stays w w') : RRown w' cs r := by
  obtain ⟨vn, vt, vm, h1, h2, h3, h4, h5, h6⟩ := h
  exact ⟨vn, vt, vm, h1, h2, h3.stays k, h4.stays k, h5.stays k, h6⟩
theorem RRown.is {w : World} {cs : List Value} {r : RR} (h : RRown w cs r) : RRis w cs r := by
  obtain ⟨vn, vt, vm, h1, h2, h3, h4, h5, h6⟩ := h
  obtain ⟨An, cn, rfl, n3⟩ := h3.form
  obtain ⟨At, ct, rfl, n4⟩ := h4.form
  obtain ⟨Am, cm, rfl, n5⟩ := h5.form
  exact ⟨An, cn, At, ct, Am, cm, h1, h2, n3, n4, n5, h6⟩
theorem RRown.zero (w : World) : RRown w rrZ RR.zero := ⟨nilS, nilS, nilS, rfl, ⟨rfl, rfl⟩, NmO.nil w, NmO.nil w, NmO.nil w, by simp [RR.zero]⟩
/-- A question of one's own. -/
def Qown (w : World) (cs : List Value) (q : Qn) : Prop := ∃ vn, cs = qC vn q ∧ NmO w vn q.name
theorem Qown.stays {w w' : World} {cs : List Value} {q : Qn} (h : Qown w cs q) (k : Stays w w') : Qown w' cs q := by obtain ⟨vn, h1, h2⟩ := h; exact ⟨vn, h1, h2.stays k⟩
theorem Qown.len {w : World} {cs : List Value} {q : Qn} (h : Qown w cs q) : cs.length = 3 := by obtain ⟨vn, rfl, _⟩ := h; rfl
theorem Qown.one {w : World} {cs : List Value} {q : Qn} (h : Qown w cs q) : ∀ v ∈ cs, v.oneCell' = true := by
  obtain ⟨vn, rfl, h2⟩ := h
  intro v hv
  simp only [qC, List.mem_cons, List.not_mem_nil, or_false] at hv
  rcases hv with rfl | rfl | rfl
  · exact h2.one
  · rfl
  · rfl
/-- Cells, item by item. -/
def Each {α : Type} (R : List Value → α → Prop) : List (List Value) → List α → Prop
  | [], [] => True
  | cs :: css, r :: l => R cs r ∧ Each R css l
  | _, _ => False
section
variable {α : Type} {R R' : List Value → α → Prop}
theorem Each.app1 {cs : List Value} {x : α} (hx : R cs x) : ∀ {css : List (List Value)} {l : List α}, Each R css l → Each R (css ++ [cs]) (l ++ [x])
  | [], [], _ => ⟨hx, trivial⟩
  | _ :: _, _ :: _, h => ⟨h.1, Each.app1 hx h.2⟩
theorem Each.mono (hm : ∀ cs x, R cs x → R' cs x) : ∀ {css : List (List Value)} {l : List α}, Each R css l → Each R' css l
  | [], [], _ => trivial
  | _ :: _, _ :: _, h => ⟨hm _ _ h.1, Each.mono hm h.2⟩
theorem Each.get {k : Nat} (hk : ∀ cs x, R cs x → cs.length = k) : ∀ {css : List (List Value)} {l : List α}, Each R css l → ∀ (rest : List Value) (i : Nat) (hi : i < l.length), ∃ cs, ((css.flatten ++ rest).drop (i * k)).take k = cs ∧ R cs l[i]
  | [], [], _, _, i, hi => absurd hi (by simp)
  | cs :: css, r :: l, h, rest, 0, hi => by
    refine ⟨cs, ?_, h.1⟩
    simp only [List.flatten_cons, Nat.zero_mul, List.drop_zero, List.append_assoc]
    exact List.take_left' (hk _ _ h.1)
  | cs :: css, r :: l, h, rest, i + 1, hi => by
    obtain ⟨ck, h1, h2⟩ := Each.get hk h.2 rest i (by simpa using hi)
    refine ⟨ck, ?_, by simpa using h2⟩
    rw [← h1]
    simp only [List.flatten_cons, List.append_assoc]
    rw [show (i + 1) * k = cs.length + i * k by rw [hk _ _ h.1, Nat.succ_mul, Nat.add_comm], ← List.drop_drop, List.drop_left]
/-- A list of one's own: k cells each. -/
def LOwn (w : World) (B : Nat) (e : TypeId) (k : Nat) (R : List Value → α → Prop) (v : Value) (l : List α) : Prop := ∃ css, w.ownsRow B e k v l.length css.flatten ∧ Each R css l
theorem LOwn.form {w : World} {B : Nat} {e : TypeId} {k : Nat} {v : Value} {l : List α} (h : LOwn w B e k R v l) : ∃ A c, v = .slice A l.length c := by
  obtain ⟨css, h1, _⟩ := h; exact own_form h1
theorem LOwn.at_ {w : World} {B : Nat} {e : TypeId} {k : Nat} {A : Option Addr} {c : Nat} {l : List α} (hk : ∀ cs x, R cs x → cs.length = k) (h : LOwn w B e k R (.slice A l.length c) l) (hp : 0 < l.length) :
    ∃ g, A = some ⟨g, 0, none⟩ ∧ g < w.heap.size ∧ ∀ i (hi : i < l.length), ∃ cs, w.rangeAt g (0 + i * k) cs ∧ R cs l[i] := by
  obtain ⟨css, hown, hr⟩ := h
  rcases hown.2 with ⟨_, h0⟩ | ⟨g, cap, cur, hv, hB, hg, hc, hm, hs, ht⟩
  · omega
  · injection hv with h1 h2 h3
    have hcl : cur.toList.length = cur.size := by simp
    have htk : cur.toList = css.flatten ++ cur.toList.drop (l.length * k) := by rw [← ht, List.take_append_drop]
    have hb : Blk w g e cur.toList := hg
    have hle : l.length * k ≤ cur.toList.length := by rw [hcl, hs]; exact Nat.mul_le_mul_right _ hc
    refine ⟨g, h1, hb.lt, fun i hi => ?_⟩
    obtain ⟨cs, e1, e2⟩ := hr.get hk (cur.toList.drop (l.length * k)) i hi
    rw [← htk] at e1
    refine ⟨cs, ?_, e2⟩
    rw [← e1, Nat.zero_add]
    have h4 : (i + 1) * k ≤ l.length * k := Nat.mul_le_mul_right _ hi
    rw [Nat.succ_mul] at h4
    exact hb.range (i * k) k (by omega)
end
abbrev RRsOwn (w : World) (B : Nat) (v : Value) (l : List RR) : Prop := LOwn w B 86 33 (RRown w) v l
abbrev QsOwn (w : World) (B : Nat) (v : Value) (l : List Qn) : Prop := LOwn w B 61 3 (Qown w) v l
theorem RRown.len {w : World} {cs : List Value} {r : RR} (h : RRown w cs r) : cs.length = 33 := h.is.len
theorem RRown.one {w : World} {cs : List Value} {r : RR} (h : RRown w cs r) : ∀ v ∈ cs, v.oneCell' = true := h.is.one
theorem RRsOwn.nil (w : World) (B : Nat) : RRsOwn w B (.slice none 0 0) [] := ⟨[], World.ownsRow_nil _ _ _ _, trivial⟩
theorem QsOwn.nil (w : World) (B : Nat) : QsOwn w B (.slice none 0 0) [] := ⟨[], World.ownsRow_nil _ _ _ _, trivial⟩
theorem RRsOwn.rr {w : World} {B : Nat} {A : Option Addr} {c : Nat} {l : List RR} (h : RRsOwn w B (.slice A l.length c) l) : RRsR w A l := by
  intro hp
  obtain ⟨g, h1, h2, h3⟩ := h.at_ (fun _ _ h => h.len) hp
  refine ⟨g, 0, h1, h2, fun i hi => ?_⟩
  obtain ⟨cs, h4, h5⟩ := h3 i hi
  exact ⟨cs, h4, h5.is⟩
theorem QsOwn.qq {w : World} {B : Nat} {A : Option Addr} {c : Nat} {l : List Qn} (h : QsOwn w B (.slice A l.length c) l) : QsR w A l := by
  intro hp
  obtain ⟨g, h1, h2, h3⟩ := h.at_ (fun _ _ h => h.len) hp
  refine ⟨g, 0, h1, h2, fun i hi => ?_⟩
  obtain ⟨cs, h4, vn, rfl, h5⟩ := h3 i hi
  obtain ⟨An, cn, rfl, h6⟩ := h5.form
  exact ⟨An, cn, h4, h6⟩
/-- What keeps a list: its row, and the texts. -/
theorem LOwn.stays {α : Type} {w w' : World} {B : Nat} {e : TypeId} {k : Nat} {R R' : List Value → α → Prop} {v : Value} {l : List α} (h : LOwn w B e k R v l) (hr : ∀ xs, w.ownsRow B e k v l.length xs → w'.ownsRow B e k v l.length xs) (hm : ∀ cs x, R cs x → R' cs x) : LOwn w' B e k R' v l := by
  obtain ⟨css, h1, h2⟩ := h
  exact ⟨css, hr _ h1, h2.mono hm⟩
theorem RRsOwn.below {w w' : World} {B : Nat} {v : Value} {l : List RR} (h : RRsOwn w B v l) (hb : Below w.heap.size w w') : RRsOwn w' B v l := h.stays (fun _ x => own_below x hb) (fun _ _ x => x.stays (Stays.below hb))
theorem QsOwn.below {w w' : World} {B : Nat} {v : Value} {l : List Qn} (h : QsOwn w B v l) (hb : Below w.heap.size w w') : QsOwn w' B v l := h.stays (fun _ x => own_below x hb) (fun _ _ x => x.stays (Stays.below hb))
theorem own_blk {w w' : World} {B g : Nat} {e t : TypeId} {s n : Nat} {v : Value} {xs cs : List Value} (h : w.ownsRow B e s v n xs) (hg : w.grownBy w' (some g)) (hb : Blk w g t cs) (ht : t ≠ e) : w'.ownsRow B e s v n xs := by
  refine World.ownsRow.kept h hg ?_
  cases hv : v.ownBlock with
  | none => exact .inl rfl
  | some k =>
    refine .inr ?_
    intro he
    injection he with he
    subst he
    rcases h.2 with ⟨rfl, _⟩ | ⟨g', cap, cur, rfl, _, hh, _⟩
    · simp [Value.ownBlock] at hv
    · have : g' = k := by simpa [Value.ownBlock] using hv
      subst this
      unfold Blk at hb
      rw [hh] at hb
      injection hb with hb
      injection hb with _ he
      exact ht he.symm
theorem RRsOwn.blk {w w' : World} {B g : Nat} {t : TypeId} {cs : List Value} {v : Value} {l : List RR} (h : RRsOwn w B v l) (hg : w.grownBy w' (some g)) (hb : Blk w g t cs) (h1 : t ≠ 86) (h2 : t ≠ 9) : RRsOwn w' B v l := h.stays (fun _ x => own_blk x hg hb h1) (fun _ _ x => x.stays (Stays.blk hg hb h2))
theorem QsOwn.blk {w w' : World} {B g : Nat} {t : TypeId} {cs : List Value} {v : Value} {l : List Qn} (h : QsOwn w B v l) (hg : w.grownBy w' (some g)) (hb : Blk w g t cs) (h1 : t ≠ 61) (h2 : t ≠ 9) : QsOwn w' B v l := h.stays (fun _ x => own_blk x hg hb h1) (fun _ _ x => x.stays (Stays.blk hg hb h2))
/-- A message of one's own. -/
def MsgOwn (w : World) (cs : List Value) (m : Msg) : Prop := ∃ vq va vu ve, cs = msgC m.hd vq va vu ve ∧ QsOwn w 0 vq m.qs ∧ RRsOwn w 0 va m.an ∧ RRsOwn w 0 vu m.au ∧ RRsOwn w 0 ve m.ex ∧ m.qs.length ≤ 65535 ∧ m.an.length ≤ 65535 ∧ m.au.length ≤ 65535 ∧ m.ex.length ≤ 65535
theorem MsgOwn.is {w : World} {cs : List Value} {m : Msg} (h : MsgOwn w cs m) : ∃ Aq Aa Au Ae cq ca cu ce, MsgIs w cs m Aq Aa Au Ae cq ca cu ce := by
  obtain ⟨vq, va, vu, ve, h1, h2, h3, h4, h5, l1, l2, l3, l4⟩ := h
  obtain ⟨Aq, cq, rfl⟩ := h2.form
  obtain ⟨Aa, ca, rfl⟩ := h3.form
  obtain ⟨Au, cu, rfl⟩ := h4.form
  obtain ⟨Ae, ce, rfl⟩ := h5.form
  exact ⟨Aq, Aa, Au, Ae, cq, ca, cu, ce, h1, h2.qq, h3.rr, h4.rr, h5.rr, by omega, by omega, by omega, by omega⟩
theorem MsgOwn.below {w w' : World} {cs : List Value} {m : Msg} (h : MsgOwn w cs m) (hb : Below w.heap.size w w') : MsgOwn w' cs m := by
  obtain ⟨vq, va, vu, ve, h1, h2, h3, h4, h5, l⟩ := h
  exact ⟨vq, va, vu, ve, h1, h2.below hb, h3.below hb, h4.below hb, h5.below hb, l⟩
def Msg.zero : Msg := ⟨Hd.zero, [], [], [], []⟩
def msgZ : List Value := msgC Hd.zero nilS nilS nilS nilS
theorem MsgOwn.zero (w : World) : MsgOwn w msgZ Msg.zero := ⟨nilS, nilS, nilS, nilS, rfl, QsOwn.nil w 0, RRsOwn.nil w 0, RRsOwn.nil w 0, RRsOwn.nil w 0, by simp [Msg.zero], by simp [Msg.zero], by simp [Msg.zero], by simp [Msg.zero]⟩
end Go.Proofs.Ytlmgdogblbigpaa
