/-
  Messages: as data, as cells, as octets.
-/
import Derived.Test.YtlmgdogblbigpaaHSq
import Derived.Test.YtlmgdogblbigpaaHTq
import Derived.Test.YtlmgdogblbigpaaGBq
namespace Go.Proofs.Ytlmgdogblbigpaa
open Go.RowKit
set_option maxRecDepth 100000
set_option linter.unusedVariables false
set_option linter.unusedSimpArgs false

/-- A question. -/
structure Qn where
  name : List (List UInt8)
  ty : Int
  cl : Int
deriving DecidableEq
/-- A message. -/
structure Msg where
  hd : Hd
  qs : List Qn
  an : List RR
  au : List RR
  ex : List RR
deriving DecidableEq
def Msg.rrs (m : Msg) : List RR := m.an ++ m.au ++ m.ex
/-- The first that is an error. -/
def fstE : List Int → Int
  | [] => 0
  | e :: l => if e ≠ 0 then e else fstE l
theorem fstE_ok {l : List Int} (h : ∀ j (hj : j < l.length), l[j] = 0) : fstE l = 0 := by
  induction l with
  | nil => rfl
  | cons e l ih =>
    have h0 : e = 0 := h 0 (by simp)
    unfold fstE
    rw [if_neg (by simp [h0])]
    exact ih (fun j hj => by have := h (j + 1) (by simp; omega); simpa using this)
theorem fstE_bad {l : List Int} {k : Nat} (hk : k < l.length) (h : ∀ j (hj : j < l.length), j < k → l[j] = 0) (hb : l[k] ≠ 0) : fstE l = l[k] := by
  induction l generalizing k with
  | nil => simp at hk
  | cons e l ih =>
    cases k with
    | zero => simp only [List.getElem_cons_zero] at hb ⊢; unfold fstE; rw [if_pos hb]
    | succ k =>
      have h0 : e = 0 := h 0 (by simp) (by omega)
      unfold fstE
      rw [if_neg (by simp [h0])]
      have := ih (k := k) (by simpa using hk) (fun j hj hjk => by have := h (j + 1) (by simp; omega) (by omega); simpa using this) (by simpa using hb)
      simpa using this
/-- What is wrong with a question. -/
def qE (q : Qn) : Int := if checkN q.name ≠ 0 then checkN q.name else if inB 65535 q.ty && inB 65535 q.cl then 0 else 4
/-- What is wrong with a message. -/
def checkM (m : Msg) : Int :=
  if m.hd.ok = false then 4
  else if 65535 < m.qs.length ∨ 65535 < m.an.length ∨ 65535 < m.au.length ∨ 65535 < m.ex.length then 3
  else if fstE (m.qs.map qE) ≠ 0 then fstE (m.qs.map qE)
  else fstE (m.rrs.map checkR)
abbrev WS := List UInt8 × Option Tab
/-- Behind a question. -/
def putQ (st : WS) (q : Qn) : WS := (st.1 ++ putSO st.2 st.1.length q.name ++ putB 2 q.ty ++ putB 2 q.cl, putTO st.2 st.1.length q.name)
/-- A record up to the length of its data. -/
def recS (st : WS) (r : RR) : List UInt8 := st.1 ++ putSO st.2 st.1.length r.name ++ putB 2 r.ty ++ putB 2 r.cl ++ putB 4 r.ttl
def recT (st : WS) (r : RR) : Option Tab := putTO st.2 st.1.length r.name
def recD (st : WS) (r : RR) : List UInt8 := dataR (recT st r) ((recS st r).length + 2) r
/-- Behind a record. -/
def putRec (st : WS) (r : RR) : WS := (recS st r ++ putB 2 (recD st r).length ++ recD st r, tabR (recT st r) ((recS st r).length + 2) r)
def startM (m : Msg) (pack : Bool) : WS := (putHead m.hd m.qs.length m.an.length m.au.length m.ex.length, if pack then some [] else none)
def encS (m : Msg) (pack : Bool) : WS := m.rrs.foldl putRec (m.qs.foldl putQ (startM m pack))
/-- A message's octets, or why it has none. -/
def encM (m : Msg) (pack : Bool) : List UInt8 × Int :=
  if checkM m ≠ 0 then ([], checkM m) else if 65535 < (encS m pack).1.length then ([], 3) else ((encS m pack).1, 0)
theorem putQ_len (st : WS) (q : Qn) : st.1.length ≤ (putQ st q).1.length := by simp [putQ]
theorem putRec_len (st : WS) (r : RR) : st.1.length ≤ (putRec st r).1.length := by simp [putRec, recS]
theorem foldQ_len (l : List Qn) : ∀ st : WS, st.1.length ≤ (l.foldl putQ st).1.length := by
  induction l with
  | nil => intro st; exact Nat.le_refl _
  | cons q l ih => intro st; exact Nat.le_trans (putQ_len st q) (ih _)
theorem foldR_len (l : List RR) : ∀ st : WS, st.1.length ≤ (l.foldl putRec st).1.length := by
  induction l with
  | nil => intro st; exact Nat.le_refl _
  | cons q l ih => intro st; exact Nat.le_trans (putRec_len st q) (ih _)
/-- The cells of a question; of a message. -/
def qC (v : Value) (q : Qn) : List Value := [v, .int .i64 q.ty, .int .i64 q.cl]
def msgC (h : Hd) (vq va vu ve : Value) : List Value := h.vals ++ [vq, va, vu, ve]
theorem msgC_len (h : Hd) (vq va vu ve : Value) : (msgC h vq va vu ve).length = 14 := rfl
theorem msgC_one (h : Hd) {vq va vu ve : Value} (h1 : vq.oneCell' = true) (h2 : va.oneCell' = true) (h3 : vu.oneCell' = true) (h4 : ve.oneCell' = true) : ∀ v ∈ msgC h vq va vu ve, v.oneCell' = true := by
  intro v hv
  simp only [msgC, Hd.vals, List.mem_append, List.mem_cons, List.not_mem_nil, or_false] at hv
  rcases hv with (rfl | rfl | rfl | rfl | rfl | rfl | rfl | rfl | rfl | rfl) | rfl | rfl | rfl | rfl <;> first | rfl | assumption
theorem msgInfo : (Try.prog.info? 52).map (·.size) = some 14 := by kernel_rfl
theorem hdInfo : (Try.prog.info? 48).map (·.size) = some 10 := by kernel_rfl
theorem qInfo : (Try.prog.info? 61).map (·.size) = some 3 := by kernel_rfl
/-- A list of questions lies there. -/
def QsR (w : World) (A : Option Addr) (l : List Qn) : Prop := 0 < l.length → ∃ b off, A = some ⟨b, off, none⟩ ∧ b < w.heap.size ∧ ∀ i (hi : i < l.length), ∃ An cn, w.rangeAt b (off + i * 3) (qC (.slice An l[i].name.length cn) l[i]) ∧ NmR w An cn l[i].name
/-- A list of records lies there. -/
def RRsR (w : World) (A : Option Addr) (l : List RR) : Prop := 0 < l.length → ∃ b off, A = some ⟨b, off, none⟩ ∧ b < w.heap.size ∧ ∀ i (hi : i < l.length), ∃ cs, w.rangeAt b (off + i * 33) cs ∧ RRis w cs l[i]
theorem range_below {w w' : World} {B b o : Nat} {cs : List Value} (h : w.rangeAt b o cs) (hb : Below B w w') (hB : b < B) : w'.rangeAt b o cs := fun j v hv => (hb.cell hB).trans (h j v hv)
theorem QsR.below {w w' : World} {A : Option Addr} {l : List Qn} (h : QsR w A l) (hb : Below w.heap.size w w') : QsR w' A l := by
  intro hl
  obtain ⟨b, off, h1, h2, h3⟩ := h hl
  refine ⟨b, off, h1, Nat.lt_of_lt_of_le h2 hb.size, fun i hi => ?_⟩
  obtain ⟨An, cn, h4, h5⟩ := h3 i hi
  exact ⟨An, cn, range_below h4 hb h2, h5.below hb⟩
theorem RRsR.below {w w' : World} {A : Option Addr} {l : List RR} (h : RRsR w A l) (hb : Below w.heap.size w w') : RRsR w' A l := by
  intro hl
  obtain ⟨b, off, h1, h2, h3⟩ := h hl
  refine ⟨b, off, h1, Nat.lt_of_lt_of_le h2 hb.size, fun i hi => ?_⟩
  obtain ⟨cs, h4, h5⟩ := h3 i hi
  exact ⟨cs, range_below h4 hb h2, h5.below hb⟩
/-- The cells are the message. -/
structure MsgIs (w : World) (cs : List Value) (m : Msg) (Aq Aa Au Ae : Option Addr) (cq ca cu ce : Nat) : Prop where
  hcs : cs = msgC m.hd (.slice Aq m.qs.length cq) (.slice Aa m.an.length ca) (.slice Au m.au.length cu) (.slice Ae m.ex.length ce)
  hq : QsR w Aq m.qs
  ha : RRsR w Aa m.an
  hu : RRsR w Au m.au
  he : RRsR w Ae m.ex
  lq : m.qs.length ≤ 17592186044416
  la : m.an.length ≤ 17592186044416
  lu : m.au.length ≤ 17592186044416
  le : m.ex.length ≤ 17592186044416
theorem MsgIs.below {w w' : World} {cs : List Value} {m : Msg} {Aq Aa Au Ae : Option Addr} {cq ca cu ce : Nat} (h : MsgIs w cs m Aq Aa Au Ae cq ca cu ce) (hb : Below w.heap.size w w') : MsgIs w' cs m Aq Aa Au Ae cq ca cu ce :=
  ⟨h.hcs, h.hq.below hb, h.ha.below hb, h.hu.below hb, h.he.below hb, h.lq, h.la, h.lu, h.le⟩
end Go.Proofs.Ytlmgdogblbigpaa
/-
  What the reading of a message says of its cells.
-/
namespace Go.Proofs.Ytlmgdogblbigpaa
open Go.ChangeShapes Go.WideShapes Go.ChangeAt Go.RowKit
set_option linter.unusedVariables false
set_option linter.unusedSimpArgs false

theorem dsplit (cs : List Value) (n k m : Nat) (h : m = n + k) : cs.drop n = (cs.drop n).take k ++ cs.drop m := by
  subst h; rw [← List.drop_drop, List.take_append_drop]
theorem octs_of : ∀ (cs : List Value), (∀ (i : Nat) (hi : i < cs.length), ∃ b : UInt8, cs[i] = .int .u8 (b.toNat : Int)) → ∃ l : List UInt8, cs = octs l
  | [], _ => ⟨[], rfl⟩
  | c :: cs, h => by
    obtain ⟨b, hb⟩ := h 0 (by simp)
    obtain ⟨l, hl⟩ := octs_of cs (fun i hi => by have := h (i + 1) (by simpa using hi); simpa using this)
    simp at hb
    exact ⟨b :: l, by rw [hb, hl]; rfl⟩
theorem take1 {cs : List Value} {i : Nat} {v : Value} (hi : i < cs.length) (h : (cs.drop i).take 1 = [v]) : cs[i] = v := by
  have : ((cs.drop i).take 1)[0]? = some v := by rw [h]; rfl
  rw [List.getElem?_take_of_lt (by omega), List.getElem?_drop, Nat.add_zero, List.getElem?_eq_getElem hi] at this
  exact Option.some.inj this
section
variable {H : Type} {enc : TypeId × Value → H} {w : World} {cs : List Value}
theorem seen_int (h : SeenW enc Try.prog w 3 cs) : ∃ n : Int, cs = [.int .i64 n] := by obtain ⟨n, e, _⟩ := h.int Try.underlying3; exact ⟨n, e⟩
theorem seen_16 (h : SeenW enc Try.prog w 57 cs) : ∃ l : List UInt8, l.length = 16 ∧ cs = octs l := by
  have c16 : Try.prog.cellsOf 57 = 16 := by kernel_rfl
  have c1 : Try.prog.cellsOf 5 = 1 := by kernel_rfl
  obtain ⟨hl, hf⟩ := h.array Try.underlying57
  rw [c16] at hl
  rw [c1] at hf
  obtain ⟨l, e⟩ := octs_of cs (fun i hi => by
    obtain ⟨n, e, hw⟩ := (hf i (by omega)).int Try.underlying5
    rw [Nat.mul_one] at e
    have e2 := take1 hi e
    simp only [Lit.wf, Bool.and_eq_true, decide_eq_true_eq] at hw
    have h0 : 0 ≤ n := hw.1
    have h1 : n ≤ 255 := hw.2
    refine ⟨UInt8.ofNat n.toNat, ?_⟩
    rw [e2]
    have e3 : (UInt8.ofNat n.toNat).toNat = n.toNat := by rw [UInt8.toNat_ofNat']; exact Nat.mod_eq_of_lt (by omega)
    rw [e3, Int.toNat_of_nonneg h0])
  refine ⟨l, ?_, e⟩
  rw [e, octs_length] at hl
  exact hl
theorem seen_adr (h : SeenW enc Try.prog w 59 cs) : ∃ a : Adr, a.ip.length = 16 ∧ cs = a.cells := by
  have c18 : Try.prog.cellsOf 59 = 18 := by kernel_rfl
  have c1 : Try.prog.cellsOf 3 = 1 := by kernel_rfl
  have c16 : Try.prog.cellsOf 57 = 16 := by kernel_rfl
  obtain ⟨hl, hf⟩ := h.struct Try.underlying59
  rw [c18] at hl
  have h0 : SeenW enc Try.prog w 3 ((cs.drop 0).take (Try.prog.cellsOf 3)) := hf 0 _ rfl
  have h1 : SeenW enc Try.prog w 57 ((cs.drop 1).take (Try.prog.cellsOf 57)) := hf 1 _ rfl
  have h2 : SeenW enc Try.prog w 3 ((cs.drop 17).take (Try.prog.cellsOf 3)) := hf 2 _ rfl
  rw [c1] at h0 h2
  rw [c16] at h1
  obtain ⟨f, e0⟩ := seen_int h0
  obtain ⟨ip, i16, e1⟩ := seen_16 h1
  obtain ⟨z, e2⟩ := seen_int h2
  refine ⟨⟨f, ip, z⟩, i16, ?_⟩
  show cs.drop 0 = _
  rw [dsplit cs 0 1 1 rfl, e0, dsplit cs 1 16 17 rfl, e1, dsplit cs 17 1 18 rfl, e2, List.drop_of_length_le (by omega)]
  rfl
theorem seen_q (h : SeenW enc Try.prog w 61 cs) : ∃ q : Qn, ∃ An cn, cs = qC (.slice An q.name.length cn) q ∧ NmR w An cn q.name := by
  have c33 : Try.prog.cellsOf 61 = 3 := by kernel_rfl
  have c1 : Try.prog.cellsOf 3 = 1 := by kernel_rfl
  have cn : Try.prog.cellsOf 24 = 1 := by kernel_rfl
  obtain ⟨hl, hf⟩ := h.struct Try.underlying61
  rw [c33] at hl
  have h0 : SeenW enc Try.prog w 24 ((cs.drop 0).take (Try.prog.cellsOf 24)) := hf 0 _ rfl
  have h1 : SeenW enc Try.prog w 3 ((cs.drop 1).take (Try.prog.cellsOf 3)) := hf 1 _ rfl
  have h2 : SeenW enc Try.prog w 3 ((cs.drop 2).take (Try.prog.cellsOf 3)) := hf 2 _ rfl
  rw [cn] at h0
  rw [c1] at h1 h2
  obtain ⟨An, kn, n, e0, r0⟩ := seen_texts Try.underlying24 h0
  obtain ⟨ty, e1⟩ := seen_int h1
  obtain ⟨cl, e2⟩ := seen_int h2
  refine ⟨⟨n, ty, cl⟩, An, kn, ?_, r0⟩
  show cs.drop 0 = _
  rw [dsplit cs 0 1 1 rfl, e0, dsplit cs 1 1 2 rfl, e1, dsplit cs 2 1 3 rfl, e2, List.drop_of_length_le (by omega)]
  rfl
end
end Go.Proofs.Ytlmgdogblbigpaa
/-
  Layer 14 (message): within, lists; what is wrong with a message, from the list on.
-/
namespace Go.Proofs.Ytlmgdogblbigpaa
open Go.RowKit
set_option maxRecDepth 100000
set_option linter.unusedVariables false
set_option linter.unusedSimpArgs false

theorem refOut14_any (n : Int) (w : World) : Calls Try.prog 79 #[.int .i64 n] w (Ret (.bool (!inB 65535 n)) w) := by
  unfold inB
  by_cases h0 : n < 0
  · have d0 : decide (n < 0) = true := decide_eq_true h0
    have d1 : decide (0 ≤ n) = false := decide_eq_false (by omega)
    rw [d1]
    go_enter Try.func79, Try.ntmps79
    go_wp2_with fail
    go_ret
    exact Ret.mk rfl rfl
  · have d0 : decide (n < 0) = false := decide_eq_false h0
    have d1 : decide (0 ≤ n) = true := decide_eq_true (by omega)
    rw [d1]
    by_cases h1 : 65535 < n
    · have d2 : decide (65535 < n) = true := decide_eq_true h1
      have d3 : decide (n ≤ 65535) = false := decide_eq_false (by omega)
      rw [d3]
      go_enter Try.func79, Try.ntmps79
      go_wp2_with fail
      go_ret
      exact Ret.mk rfl rfl
    · have d2 : decide (65535 < n) = false := decide_eq_false h1
      have d3 : decide (n ≤ 65535) = true := decide_eq_true (by omega)
      rw [d3]
      go_enter Try.func79, Try.ntmps79
      go_wp2_with fail
      go_ret
      exact Ret.mk rfl rfl
theorem fstM_ok {α : Type} (f : α → Int) (l : List α) (h : ∀ j (hj : j < l.length), f l[j] = 0) : fstE (l.map f) = 0 :=
  fstE_ok (fun j hj => by rw [List.getElem_map]; exact h j (by simpa using hj))
theorem fstM_bad {α : Type} (f : α → Int) (l : List α) (k : Nat) (hk : k < l.length) (h : ∀ j (hj : j < l.length), j < k → f l[j] = 0) (hb : f l[k] ≠ 0) : fstE (l.map f) = f l[k] := by
  have := fstE_bad (l := l.map f) (k := k) (by simpa using hk) (fun j hj hjk => by rw [List.getElem_map]; exact h j (by simpa using hj) hjk) (by rw [List.getElem_map]; exact hb)
  rwa [List.getElem_map] at this
/-- A struct out of a list. -/
theorem wpList_ldR {P : Program} {ops : Array Oper} {rest : List Oper} {op : Oper} {a : Act} {w : World} {Q : Exit → Act → World → Prop} (hgd : op.guard = none) (ty : TypeId) (x : Operand) (ho : op.op = .load ty x)
    (b o : Nat) (hx : a.eval x = .pointer (some ⟨b, o, none⟩)) (cs : List Value) (hc : w.rangeAt b o cs) (d : TypeDesc)
    (hu : P.underlying ty = some d) (hd : d.isRow = true) (hi : (P.info? ty).map (·.size) = some cs.length)
    (h : wpList P ops Q rest (a.put op.dst (.agg cs.toArray)) w) : wpList P ops Q (op :: rest) a w :=
  wpList_plain hgd fun K hK => wp_load_mid ty x ho b o hx cs d hc hu hd hi (hK _ _ h)
theorem RRis.len {w : World} {cs : List Value} {r : RR} (h : RRis w cs r) : cs.length = 33 := by obtain ⟨_, _, _, _, _, _, rfl, hr, _⟩ := h; exact rrC_len hr
theorem RRis.one {w : World} {cs : List Value} {r : RR} (h : RRis w cs r) : ∀ v ∈ cs, v.oneCell' = true := by obtain ⟨_, _, _, _, _, _, rfl, hr, _⟩ := h; exact rrC_one rfl rfl rfl
end Go.Proofs.Ytlmgdogblbigpaa
/-
  What Encode comes to, plainly.
-/
namespace Go.Proofs.Ytlmgdogblbigpaa
open Go.RowKit
set_option maxRecDepth 100000
set_option linter.unusedVariables false
set_option linter.unusedSimpArgs false

theorem fstE_zero : ∀ {l : List Int}, fstE l = 0 → ∀ e ∈ l, e = 0
  | [], _, e, he => by cases he
  | x :: l, h, e, he => by
    unfold fstE at h
    by_cases hx : x = 0
    · rw [if_neg (by simp [hx])] at h
      rcases List.mem_cons.1 he with rfl | he
      · exact hx
      · exact fstE_zero h e he
    · rw [if_pos hx] at h; exact absurd h hx
/-- What a message that may be has. -/
structure MOk (m : Msg) : Prop where
  hd : m.hd.ok = true
  lq : m.qs.length ≤ 65535
  la : m.an.length ≤ 65535
  lu : m.au.length ≤ 65535
  le : m.ex.length ≤ 65535
  q : ∀ q ∈ m.qs, checkN q.name = 0
  r : ∀ r ∈ m.rrs, checkR r = 0
theorem mOk_of {m : Msg} (h : checkM m = 0) : MOk m := by
  unfold checkM at h
  cases hk : m.hd.ok with
  | false => rw [if_pos hk] at h; cases h
  | true =>
    rw [if_neg (by simp [hk])] at h
    by_cases h1 : 65535 < m.qs.length ∨ 65535 < m.an.length ∨ 65535 < m.au.length ∨ 65535 < m.ex.length
    · rw [if_pos h1] at h; cases h
    · rw [if_neg h1] at h
      by_cases h2 : fstE (m.qs.map qE) = 0
      · rw [if_neg (by simp [h2])] at h
        refine ⟨hk, by omega, by omega, by omega, by omega, fun q hq => ?_, fun r hr => fstE_zero h _ (List.mem_map_of_mem hr)⟩
        have := fstE_zero h2 _ (List.mem_map_of_mem hq)
        unfold qE at this
        by_cases h3 : checkN q.name = 0
        · exact h3
        · rw [if_pos h3] at this; exact this
      · rw [if_pos h2] at h; exact absurd h h2
theorem foldQ_take (l : List Qn) (k : Nat) (st : WS) : ((l.take k).foldl putQ st).1.length ≤ (l.foldl putQ st).1.length := by
  conv => rhs; rw [← List.take_append_drop k l, List.foldl_append]
  exact foldQ_len _ _
theorem foldR_take (l : List RR) (k : Nat) (st : WS) : ((l.take k).foldl putRec st).1.length ≤ (l.foldl putRec st).1.length := by
  conv => rhs; rw [← List.take_append_drop k l, List.foldl_append]
  exact foldR_len _ _
theorem foldl_take_succ {α β : Type} (f : β → α → β) (l : List α) (k : Nat) (hk : k < l.length) (st : β) : (l.take (k + 1)).foldl f st = f ((l.take k).foldl f st) l[k] := by
  rw [List.take_succ_eq_append_getElem hk, List.foldl_append]; rfl
theorem fewO.mono {T : Option Tab} {a b : Nat} (h : fewO T a) (hab : a ≤ b) : fewO T b := fun T' e => Nat.le_trans (h T' e) hab
theorem few_putQ {st : WS} {k : Nat} (h : fewO st.2 k) (q : Qn) : fewO (putQ st q).2 (k + 254) := h.put _ _
theorem few_putRec {st : WS} {k : Nat} (h : fewO st.2 k) (r : RR) : fewO (putRec st r).2 (k + 762) := by
  have h1 : fewO (recT st r) (k + 254) := h.put _ _
  change fewO (tabR (recT st r) ((recS st r).length + 2) r) (k + 762)
  unfold tabR
  split
  · exact (h1.put _ _).mono (by omega)
  split
  · exact ((h1.put _ _).put _ _).mono (by omega)
  · exact h1.mono (by omega)
theorem few_foldQ : ∀ (l : List Qn) (st : WS) (k : Nat), fewO st.2 k → fewO (l.foldl putQ st).2 (k + 254 * l.length)
  | [], st, k, h => h
  | q :: l, st, k, h => (few_foldQ l (putQ st q) (k + 254) (few_putQ h q)).mono (by simp; omega)
theorem few_foldR : ∀ (l : List RR) (st : WS) (k : Nat), fewO st.2 k → fewO (l.foldl putRec st).2 (k + 762 * l.length)
  | [], st, k, h => h
  | r :: l, st, k, h => (few_foldR l (putRec st r) (k + 762) (few_putRec h r)).mono (by simp; omega)
theorem few_start (m : Msg) (pack : Bool) : fewO (startM m pack).2 0 := by
  intro T' h
  cases pack with
  | false => cases h
  | true => obtain rfl : [] = T' := by simpa [startM] using h
            simp
/-- What Encode comes to. -/
theorem encM_bad {m : Msg} (pack : Bool) (h : checkM m ≠ 0) : encM m pack = ([], checkM m) := by unfold encM; rw [if_pos h]
theorem encM_long {m : Msg} (pack : Bool) (h : checkM m = 0) (hl : 65535 < (encS m pack).1.length) : encM m pack = ([], 3) := by unfold encM; rw [if_neg (by simp [h]), if_pos hl]
theorem encM_ok {m : Msg} (pack : Bool) (h : checkM m = 0) (hl : ¬ 65535 < (encS m pack).1.length) : encM m pack = ((encS m pack).1, 0) := by unfold encM; rw [if_neg (by simp [h]), if_neg hl]
theorem start_len (m : Msg) (pack : Bool) : (startM m pack).1.length = 12 := by simp [startM, putHead, putB_length]
end Go.Proofs.Ytlmgdogblbigpaa
/-
  Layer 14 (message): the writer; its numbers and names.
-/
namespace Go.Proofs.Ytlmgdogblbigpaa
open Go.RowKit
set_option maxRecDepth 100000
set_option linter.unusedVariables false
set_option linter.unusedSimpArgs false

theorem TabO.grown {lo : Nat} {w w' : World} {p : Option Addr} {T : Option Tab} {row : Option Nat} (h : TabO lo w p T) (hg : w.grownBy w' row) (hne : ∀ k, row = some k → ∃ cs t fz, w.heap[k]? = some (.cells cs t fz) ∧ t ≠ 108) : TabO lo w' p T := by
  cases T with
  | none => exact h
  | some T =>
    obtain ⟨g, b, h1, h2, h3, h4, ⟨f, h5, h6⟩, h7⟩ := h
    have n1 : some g ≠ row := by
      intro he
      obtain ⟨cs, t, fz, hh, ht⟩ := hne g he.symm
      have h4' : w.heap[g]? = _ := h4
      rw [hh] at h4'
      injection h4' with h4'
      injection h4' with _ h4'
      exact ht h4'
    have n2 : some b ≠ row := by
      intro he
      obtain ⟨cs, t, fz, hh, ht⟩ := hne b he.symm
      obtain ⟨D, ⟨es, cl, hm, _⟩, _⟩ := h5
      rw [hh] at hm; cases hm
    exact ⟨g, b, h1, h2, h3, h4.grown hg n1, ⟨f, h5.kept hg n2, h6⟩, h7⟩
/-- The writer at gw has written s; its table is p's. -/
def WrAt (lo : Nat) (w : World) (gw : Nat) (s : List UInt8) (p : Option Addr) (T : Option Tab) : Prop :=
  ∃ A c, lo ≤ gw ∧ Blk w gw 120 [.slice A s.length c, .pointer p] ∧ OwnB w lo (.slice A s.length c) s ∧ TabO lo w p T
theorem WrAt.below {lo : Nat} {w w' : World} {gw : Nat} {s : List UInt8} {p : Option Addr} {T : Option Tab} (h : WrAt lo w gw s p T) (hb : Below w.heap.size w w') : WrAt lo w' gw s p T := by
  obtain ⟨A, c, h1, h2, h3, h4⟩ := h
  exact ⟨A, c, h1, h2.below hb h2.lt, h3.below hb, h4.below hb⟩
/-- What a writer leaves as it is. -/
def KeepW (lo : Nat) (w w' : World) : Prop := Below lo w w' ∧ ∀ g t cs, Blk w g t cs → t ≠ 120 → t ≠ 5 → Blk w' g t cs
theorem KeepW.trans {lo : Nat} {w w1 w2 : World} (h : KeepW lo w w1) (h' : KeepW lo w1 w2) : KeepW lo w w2 := ⟨h.1.trans h'.1, fun k t cs hb h1 h2 => h'.2 k t cs (h.2 k t cs hb h1 h2) h1 h2⟩
theorem KeepW.old {lo : Nat} {w w1 : World} (h : Below w.heap.size w w1) (hlo : lo ≤ w.heap.size) : KeepW lo w w1 := ⟨h.mono hlo, fun k t cs hb _ _ => hb.below h hb.lt⟩
theorem KeepW.size {lo : Nat} {w w1 : World} (h : KeepW lo w w1) (hlo : lo ≤ w.heap.size) : lo ≤ w1.heap.size := below_size_le h.1 hlo
end Go.Proofs.Ytlmgdogblbigpaa
/-
  Layer 14 (message): questions and records, written.
-/
namespace Go.Proofs.Ytlmgdogblbigpaa
open Go.RowKit
set_option maxRecDepth 100000
set_option linter.unusedVariables false
set_option linter.unusedSimpArgs false

theorem KeepW.blkQ {lo : Nat} {w w' : World} (h : KeepW lo w w') {g : Nat} {cs : List Value} (hb : Blk w g 61 cs) : Blk w' g 61 cs := h.2 g _ cs hb (by decide) (by decide)
end Go.Proofs.Ytlmgdogblbigpaa
/-
  Layer 14 (message): a record, written.
-/
namespace Go.Proofs.Ytlmgdogblbigpaa
open Go.RowKit
set_option maxRecDepth 100000
set_option linter.unusedVariables false
set_option linter.unusedSimpArgs false

theorem dataR_len {r : RR} (hw : r.wf) (hc : checkR r = 0) (T : Option Tab) (at_ : Int) : (dataR T at_ r).length ≤ 70000 := by
  have hE := (hasE_ok hc).2
  have h16 := hw.1
  have h5 := hw.2
  unfold dataR
  unfold hasE at hE
  split
  · simp; omega
  split
  · omega
  split
  · have := putSO_len T at_ r.tg; omega
  split
  · have := putSO_len none 0 r.tg
    have e : putSO none 0 r.tg = putZ r.tg := rfl
    rw [e] at this
    simp [putB_length]; omega
  split
  · have a1 := putSO_len T at_ r.tg
    have a2 := putSO_len (putTO T at_ r.tg) (at_ + (putSO T at_ r.tg).length) r.ml
    have a3 : (r.nums.flatMap (putB 4)).length = 20 := by
      match r.nums, h5 with
      | [a, b, c, d, e], _ => simp [putB_length]
    simp only [List.length_append]
    omega
  · rw [if_neg ‹_›, if_neg ‹_›, if_neg ‹_›, if_neg ‹_›, if_neg ‹_›] at hE
    by_cases h : 65535 < r.raw.length
    · rw [if_pos h] at hE; cases hE
    · omega
end Go.Proofs.Ytlmgdogblbigpaa
