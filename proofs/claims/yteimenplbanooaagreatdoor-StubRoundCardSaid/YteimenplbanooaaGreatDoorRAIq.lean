/-
  Messages: as data, as cells, as octets.
-/
import Derived.Test.YteimenplbanooaaGreatDoorRAGq
import Derived.Test.YteimenplbanooaaGreatDoorRAHq
namespace Go.Proofs.YteimenplbanooaaGreatDoor
open _root_.Go.Proofs.Tryz
open Go.RowKit
set_option maxRecDepth 100000
set_option linter.unusedVariables false
set_option linter.unusedSimpArgs false
structure Qn where
 name : List (List UInt8)
 ty : Int
 cl : Int
deriving DecidableEq
structure Msg where
 hd : Hd
 qs : List Qn
 an : List RR
 au : List RR
 ex : List RR
deriving DecidableEq
def Msg.rrs (m : Msg) : List RR := m.an ++ m.au ++ m.ex
def fstE : List Int → Int
 | [] => 0
 | e :: l => if e ≠ 0 then e else fstE l
theorem fstE_ok {l : List Int} (h : ∀ j (hj : j < l.length), l[j] = 0) : fstE l = 0 := by
 induction l with
 | nil => rfl
 | cons e l ih =>
  have h0 : e = 0 := h 0 (by simp)
  unfold fstE
  rw [if_neg (by simp [h0])]
  exact ih (fun j hj => by have := h (j + 1) (by simp; omega); simpa using this)
theorem fstE_bad {l : List Int} {k : Nat} (hk : k < l.length) (h : ∀ j (hj : j < l.length), j < k → l[j] = 0) (hb : l[k] ≠ 0) : fstE l = l[k] := by
 induction l generalizing k with
 | nil => simp at hk
 | cons e l ih =>
  cases k with
  | zero => simp only [List.getElem_cons_zero] at hb ⊢; unfold fstE; rw [if_pos hb]
  | succ k =>
   have h0 : e = 0 := h 0 (by simp) (by omega)
   unfold fstE
   rw [if_neg (by simp [h0])]
   have := ih (k := k) (by simpa using hk) (fun j hj hjk => by have := h (j + 1) (by simp; omega) (by omega); simpa using this) (by simpa using hb)
   simpa using this
theorem fstE_app (a b : List Int) : fstE (a ++ b) = if fstE a ≠ 0 then fstE a else fstE b := by
 induction a with
 | nil => simp [fstE]
 | cons e a ih =>
  by_cases h : e = 0
  ·
   simp [fstE, h, ih]
  ·
   simp [fstE, h]
def qE (q : Qn) : Int := if checkN q.name ≠ 0 then checkN q.name else if inB 65535 q.ty && inB 65535 q.cl then 0 else 4
def checkM (m : Msg) : Int :=
 if m.hd.ok = false then 4
 else if 65535 < m.qs.length ∨ 65535 < m.an.length ∨ 65535 < m.au.length ∨ 65535 < m.ex.length then 3
 else if fstE (m.qs.map qE) ≠ 0 then fstE (m.qs.map qE)
 else fstE (m.rrs.map checkR)
abbrev WS := List UInt8 × Option Tab
def putQ (st : WS) (q : Qn) : WS := (st.1 ++ putSO st.2 st.1.length q.name ++ putB 2 q.ty ++ putB 2 q.cl, putTO st.2 st.1.length q.name)
def recS (st : WS) (r : RR) : List UInt8 := st.1 ++ putSO st.2 st.1.length r.name ++ putB 2 r.ty ++ putB 2 r.cl ++ putB 4 r.ttl
def recT (st : WS) (r : RR) : Option Tab := putTO st.2 st.1.length r.name
def recD (st : WS) (r : RR) : List UInt8 := dataR (recT st r) ((recS st r).length + 2) r
def putRec (st : WS) (r : RR) : WS := (recS st r ++ putB 2 (recD st r).length ++ recD st r, tabR (recT st r) ((recS st r).length + 2) r)
def startM (m : Msg) (pack : Bool) : WS := (putHead m.hd m.qs.length m.an.length m.au.length m.ex.length, if pack then some [] else none)
def encS (m : Msg) (pack : Bool) : WS := m.rrs.foldl putRec (m.qs.foldl putQ (startM m pack))
def encM (m : Msg) (pack : Bool) : List UInt8 × Int :=
 if checkM m ≠ 0 then ([], checkM m) else if 65535 < (encS m pack).1.length then ([], 3) else ((encS m pack).1, 0)
theorem putQ_len (st : WS) (q : Qn) : st.1.length ≤ (putQ st q).1.length := by simp [putQ]
theorem putRec_len (st : WS) (r : RR) : st.1.length ≤ (putRec st r).1.length := by simp [putRec, recS]
theorem foldQ_len (l : List Qn) : ∀ st : WS, st.1.length ≤ (l.foldl putQ st).1.length := by
 induction l with
 | nil => intro st; exact Nat.le_refl _
 | cons q l ih => intro st; exact Nat.le_trans (putQ_len st q) (ih _)
theorem foldR_len (l : List RR) : ∀ st : WS, st.1.length ≤ (l.foldl putRec st).1.length := by
 induction l with
 | nil => intro st; exact Nat.le_refl _
 | cons q l ih => intro st; exact Nat.le_trans (putRec_len st q) (ih _)
def qC (v : Value) (q : Qn) : List Value := [v, .int .i64 q.ty, .int .i64 q.cl]
def msgC (h : Hd) (vq va vu ve : Value) : List Value := h.vals ++ [vq, va, vu, ve]
theorem msgC_len (h : Hd) (vq va vu ve : Value) : (msgC h vq va vu ve).length = 14 := rfl
theorem msgC_one (h : Hd) {vq va vu ve : Value} (h1 : vq.oneCell' = true) (h2 : va.oneCell' = true) (h3 : vu.oneCell' = true) (h4 : ve.oneCell' = true) : ∀ v ∈ msgC h vq va vu ve, v.oneCell' = true := by
 intro v hv
 simp only [msgC, Hd.vals, List.mem_append, List.mem_cons, List.not_mem_nil, or_false] at hv
 rcases hv with (rfl | rfl | rfl | rfl | rfl | rfl | rfl | rfl | rfl | rfl) | rfl | rfl | rfl | rfl <;> first | rfl | assumption
theorem msgInfo : (prog.info? 280).map (·.size) = some 14 := by kernel_rfl
theorem hdInfo : (prog.info? 277).map (·.size) = some 10 := by kernel_rfl
theorem qInfo : (prog.info? 218).map (·.size) = some 3 := by kernel_rfl
def QsR (w : World) (A : Option Addr) (l : List Qn) : Prop := 0 < l.length → ∃ b off, A = some ⟨b, off, none⟩ ∧ b < w.heap.size ∧ ∀ i (hi : i < l.length), ∃ An cn, w.rangeAt b (off + i * 3) (qC (.slice An l[i].name.length cn) l[i]) ∧ NmR w An cn l[i].name
def RRsR (w : World) (A : Option Addr) (l : List RR) : Prop := 0 < l.length → ∃ b off, A = some ⟨b, off, none⟩ ∧ b < w.heap.size ∧ ∀ i (hi : i < l.length), ∃ cs, w.rangeAt b (off + i * 33) cs ∧ RRis w cs l[i]
theorem range_below {w w' : World} {B b o : Nat} {cs : List Value} (h : w.rangeAt b o cs) (hb : Below B w w') (hB : b < B) : w'.rangeAt b o cs := fun j v hv => (hb.cell hB).trans (h j v hv)
theorem QsR.below {w w' : World} {A : Option Addr} {l : List Qn} (h : QsR w A l) (hb : Below w.heap.size w w') : QsR w' A l := by
 intro hl
 obtain ⟨b, off, h1, h2, h3⟩ := h hl
 refine ⟨b, off, h1, Nat.lt_of_lt_of_le h2 hb.size, fun i hi => ?_⟩
 obtain ⟨An, cn, h4, h5⟩ := h3 i hi
 exact ⟨An, cn, range_below h4 hb h2, h5.below hb⟩
theorem RRsR.below {w w' : World} {A : Option Addr} {l : List RR} (h : RRsR w A l) (hb : Below w.heap.size w w') : RRsR w' A l := by
 intro hl
 obtain ⟨b, off, h1, h2, h3⟩ := h hl
 refine ⟨b, off, h1, Nat.lt_of_lt_of_le h2 hb.size, fun i hi => ?_⟩
 obtain ⟨cs, h4, h5⟩ := h3 i hi
 exact ⟨cs, range_below h4 hb h2, h5.below hb⟩
structure MsgIs (w : World) (cs : List Value) (m : Msg) (Aq Aa Au Ae : Option Addr) (cq ca cu ce : Nat) : Prop where
 hcs : cs = msgC m.hd (.slice Aq m.qs.length cq) (.slice Aa m.an.length ca) (.slice Au m.au.length cu) (.slice Ae m.ex.length ce)
 hq : QsR w Aq m.qs
 ha : RRsR w Aa m.an
 hu : RRsR w Au m.au
 he : RRsR w Ae m.ex
 lq : m.qs.length ≤ 17592186044416
 la : m.an.length ≤ 17592186044416
 lu : m.au.length ≤ 17592186044416
 le : m.ex.length ≤ 17592186044416
theorem MsgIs.below {w w' : World} {cs : List Value} {m : Msg} {Aq Aa Au Ae : Option Addr} {cq ca cu ce : Nat} (h : MsgIs w cs m Aq Aa Au Ae cq ca cu ce) (hb : Below w.heap.size w w') : MsgIs w' cs m Aq Aa Au Ae cq ca cu ce :=
 ⟨h.hcs, h.hq.below hb, h.ha.below hb, h.hu.below hb, h.he.below hb, h.lq, h.la, h.lu, h.le⟩
open Go.ChangeShapes Go.WideShapes Go.ChangeAt Go.RowKit
theorem dsplit (cs : List Value) (n k m : Nat) (h : m = n + k) : cs.drop n = (cs.drop n).take k ++ cs.drop m := by
 subst h; rw [← List.drop_drop, List.take_append_drop]
theorem octs_of : ∀ (cs : List Value), (∀ (i : Nat) (hi : i < cs.length), ∃ b : UInt8, cs[i] = .int .u8 (b.toNat : Int)) → ∃ l : List UInt8, cs = octs l
 | [], _ => ⟨[], rfl⟩
 | c :: cs, h => by
  obtain ⟨b, hb⟩ := h 0 (by simp)
  obtain ⟨l, hl⟩ := octs_of cs (fun i hi => by have := h (i + 1) (by simpa using hi); simpa using this)
  simp at hb
  exact ⟨b :: l, by rw [hb, hl]; rfl⟩
theorem take1 {cs : List Value} {i : Nat} {v : Value} (hi : i < cs.length) (h : (cs.drop i).take 1 = [v]) : cs[i] = v := by
 have : ((cs.drop i).take 1)[0]? = some v := by rw [h]; rfl
 rw [List.getElem?_take_of_lt (by omega), List.getElem?_drop, Nat.add_zero, List.getElem?_eq_getElem hi] at this
 exact Option.some.inj this
section
variable {H : Type} {enc : TypeId × Value → H} {w : World} {cs : List Value}
theorem seen_16 (h : SeenW enc prog w 22 cs) : ∃ l : List UInt8, l.length = 16 ∧ cs = octs l := by
 have c16 : prog.cellsOf 22 = 16 := by kernel_rfl
 have c1 : prog.cellsOf 5 = 1 := by kernel_rfl
 obtain ⟨hl, hf⟩ := h.array underlying22
 rw [c16] at hl
 rw [c1] at hf
 obtain ⟨l, e⟩ := octs_of cs (fun i hi => by
  obtain ⟨n, e, hw⟩ := (hf i (by omega)).int underlying5
  rw [Nat.mul_one] at e
  have e2 := take1 hi e
  simp only [Lit.wf, Bool.and_eq_true, decide_eq_true_eq] at hw
  have h0 : 0 ≤ n := hw.1
  have h1 : n ≤ 255 := hw.2
  refine ⟨UInt8.ofNat n.toNat, ?_⟩
  rw [e2]
  have e3 : (UInt8.ofNat n.toNat).toNat = n.toNat := by rw [UInt8.toNat_ofNat']; exact Nat.mod_eq_of_lt (by omega)
  rw [e3, Int.toNat_of_nonneg h0])
 refine ⟨l, ?_, e⟩
 rw [e, octs_length] at hl
 exact hl
end
theorem mwithin_any (n : Int) (w : World) : Calls prog 317 #[.int .i64 n] w (Ret (.bool (inB 65535 n)) w) := by
 unfold inB
 by_cases h0 : 0 ≤ n
 ·
  have d0 : decide (0 ≤ n) = true := decide_eq_true h0
  by_cases h1 : n ≤ 65535
  ·
   have d1 : decide (n ≤ 65535) = true := decide_eq_true h1
   rw [d0, d1]
   go_enter func317, ntmps317
   go_wp2_with fail
   go_ret
   exact Ret.mk rfl rfl
  ·
   have d1 : decide (n ≤ 65535) = false := decide_eq_false h1
   rw [d0, d1]
   go_enter func317, ntmps317
   go_wp2_with fail
   go_ret
   exact Ret.mk rfl rfl
 ·
  have d0 : decide (0 ≤ n) = false := decide_eq_false h0
  rw [d0]
  clear h0
  go_enter func317, ntmps317
  go_wp2_with fail
  go_ret
  exact Ret.mk rfl rfl
theorem msgC_11 (h : Hd) (vq va vu ve : Value) : (msgC h vq va vu ve)[11]? = some va := rfl
theorem msgC_12 (h : Hd) (vq va vu ve : Value) : (msgC h vq va vu ve)[12]? = some vu := rfl
theorem msgC_13 (h : Hd) (vq va vu ve : Value) : (msgC h vq va vu ve)[13]? = some ve := rfl
theorem lists_any (h : Hd) (vq : Value) (Aa Au Ae : Option Addr) (na nu ne ca cu ce : Nat) (w : World) :
  Calls prog 299 #[.agg (msgC h vq (.slice Aa na ca) (.slice Au nu cu) (.slice Ae ne ce)).toArray] w (RetB (.agg #[.slice Aa na ca, .slice Au nu cu, .slice Ae ne ce]) w) := by
 have hl := msgC_len h vq (.slice Aa na ca) (.slice Au nu cu) (.slice Ae ne ce)
 have L1 := msgC_11 h vq (.slice Aa na ca) (.slice Au nu cu) (.slice Ae ne ce)
 have L2 := msgC_12 h vq (.slice Aa na ca) (.slice Au nu cu) (.slice Ae ne ce)
 have L3 := msgC_13 h vq (.slice Aa na ca) (.slice Au nu cu) (.slice Ae ne ce)
 generalize msgC h vq (.slice Aa na ca) (.slice Au nu cu) (.slice Ae ne ce) = cs at *
 have g1 : ∀ hi : 11 < cs.length, cs[11]'hi = .slice Aa na ca := at_of L1
 have g2 : ∀ hi : 12 < cs.length, cs[12]'hi = .slice Au nu cu := at_of L2
 have g3 : ∀ hi : 13 < cs.length, cs[13]'hi = .slice Ae ne ce := at_of L3
 clear L1 L2 L3
 go_enter func299, ntmps299
 go_wp2_with fail
 refine ret_cell rfl (w.heap.size + 1) rfl (Blk.new' _ _ [.slice Aa na ca, .slice Au nu cu, .slice Ae ne ce] _ (by simp)) _ underlying407 rfl (by kernel_rfl) rfl ?_
 exact RetB.mk rfl (((Below.refl _ _).alloc (Nat.le_refl _) _).alloc (by simp) _)
theorem checkM_eq (m : Msg) : checkM m = if m.hd.ok = false then 4
  else if 65535 < m.qs.length ∨ 65535 < m.an.length ∨ 65535 < m.au.length ∨ 65535 < m.ex.length then 3
  else if fstE (m.qs.map qE) ≠ 0 then fstE (m.qs.map qE)
  else if fstE (m.an.map checkR) ≠ 0 then fstE (m.an.map checkR)
  else if fstE (m.au.map checkR) ≠ 0 then fstE (m.au.map checkR) else fstE (m.ex.map checkR) := by
 unfold checkM Msg.rrs
 rw [List.map_append, List.map_append, fstE_app, fstE_app]
 by_cases h1 : fstE (m.an.map checkR) = 0
 ·
  simp [h1]
 ·
  simp [h1]
theorem fstM_ok {α : Type} (f : α → Int) (l : List α) (h : ∀ j (hj : j < l.length), f l[j] = 0) : fstE (l.map f) = 0 :=
 fstE_ok (fun j hj => by rw [List.getElem_map]; exact h j (by simpa using hj))
theorem fstM_bad {α : Type} (f : α → Int) (l : List α) (k : Nat) (hk : k < l.length) (h : ∀ j (hj : j < l.length), j < k → f l[j] = 0) (hb : f l[k] ≠ 0) : fstE (l.map f) = f l[k] := by
 have := fstE_bad (l := l.map f) (k := k) (by simpa using hk) (fun j hj hjk => by rw [List.getElem_map]; exact h j (by simpa using hj) hjk) (by rw [List.getElem_map]; exact hb)
 rwa [List.getElem_map] at this
theorem wpList_ldR {P : Program} {ops : Array Oper} {rest : List Oper} {op : Oper} {a : Act} {w : World} {Q : Exit → Act → World → Prop} (hgd : op.guard = none) (ty : TypeId) (x : Operand) (ho : op.op = .load ty x)
  (b o : Nat) (hx : a.eval x = .pointer (some ⟨b, o, none⟩)) (cs : List Value) (hc : w.rangeAt b o cs) (d : TypeDesc)
  (hu : P.underlying ty = some d) (hd : d.isRow = true) (hi : (P.info? ty).map (·.size) = some cs.length)
  (h : wpList P ops Q rest (a.put op.dst (.agg cs.toArray)) w) : wpList P ops Q (op :: rest) a w :=
 wpList_plain hgd fun K hK => wp_load_mid ty x ho b o hx cs d hc hu hd hi (hK _ _ h)
theorem RRis.len {w : World} {cs : List Value} {r : RR} (h : RRis w cs r) : cs.length = 33 := by obtain ⟨_, _, _, _, _, _, rfl, hr, _⟩ := h; exact rrC_len hr
theorem RRis.one {w : World} {cs : List Value} {r : RR} (h : RRis w cs r) : ∀ v ∈ cs, v.oneCell' = true := by obtain ⟨_, _, _, _, _, _, rfl, hr, _⟩ := h; exact rrC_one rfl rfl rfl
theorem fstE_zero : ∀ {l : List Int}, fstE l = 0 → ∀ e ∈ l, e = 0
 | [], _, e, he => by cases he
 | x :: l, h, e, he => by
  unfold fstE at h
  by_cases hx : x = 0
  ·
   rw [if_neg (by simp [hx])] at h
   rcases List.mem_cons.1 he with rfl | he
   ·
    exact hx
   ·
    exact fstE_zero h e he
  ·
   rw [if_pos hx] at h; exact absurd h hx
structure MOk (m : Msg) : Prop where
 hd : m.hd.ok = true
 lq : m.qs.length ≤ 65535
 la : m.an.length ≤ 65535
 lu : m.au.length ≤ 65535
 le : m.ex.length ≤ 65535
 q : ∀ q ∈ m.qs, checkN q.name = 0
 r : ∀ r ∈ m.rrs, checkR r = 0
theorem mOk_of {m : Msg} (h : checkM m = 0) : MOk m := by
 unfold checkM at h
 cases hk : m.hd.ok with
 | false => rw [if_pos hk] at h; cases h
 | true =>
  rw [if_neg (by simp [hk])] at h
  by_cases h1 : 65535 < m.qs.length ∨ 65535 < m.an.length ∨ 65535 < m.au.length ∨ 65535 < m.ex.length
  ·
   rw [if_pos h1] at h; cases h
  ·
   rw [if_neg h1] at h
   by_cases h2 : fstE (m.qs.map qE) = 0
   ·
    rw [if_neg (by simp [h2])] at h
    refine ⟨hk, by omega, by omega, by omega, by omega, fun q hq => ?_, fun r hr => fstE_zero h _ (List.mem_map_of_mem hr)⟩
    have := fstE_zero h2 _ (List.mem_map_of_mem hq)
    unfold qE at this
    by_cases h3 : checkN q.name = 0
    ·
     exact h3
    ·
     rw [if_pos h3] at this; exact this
   ·
    rw [if_pos h2] at h; exact absurd h h2
theorem foldQ_take (l : List Qn) (k : Nat) (st : WS) : ((l.take k).foldl putQ st).1.length ≤ (l.foldl putQ st).1.length := by
 conv => rhs; rw [← List.take_append_drop k l, List.foldl_append]
 exact foldQ_len _ _
theorem foldR_take (l : List RR) (k : Nat) (st : WS) : ((l.take k).foldl putRec st).1.length ≤ (l.foldl putRec st).1.length := by
 conv => rhs; rw [← List.take_append_drop k l, List.foldl_append]
 exact foldR_len _ _
theorem foldl_take_succ {α β : Type} (f : β → α → β) (l : List α) (k : Nat) (hk : k < l.length) (st : β) : (l.take (k + 1)).foldl f st = f ((l.take k).foldl f st) l[k] := by
 rw [List.take_succ_eq_append_getElem hk, List.foldl_append]; rfl
theorem fewO.mono {T : Option Tab} {a b : Nat} (h : fewO T a) (hab : a ≤ b) : fewO T b := fun T' e => Nat.le_trans (h T' e) hab
theorem few_putQ {st : WS} {k : Nat} (h : fewO st.2 k) (q : Qn) : fewO (putQ st q).2 (k + 254) := h.put _ _
theorem few_putRec {st : WS} {k : Nat} (h : fewO st.2 k) (r : RR) : fewO (putRec st r).2 (k + 762) := by
 have h1 : fewO (recT st r) (k + 254) := h.put _ _
 change fewO (tabR (recT st r) ((recS st r).length + 2) r) (k + 762)
 unfold tabR
 split
 ·
  exact (h1.put _ _).mono (by omega)
 split
 ·
  exact ((h1.put _ _).put _ _).mono (by omega)
 ·
  exact h1.mono (by omega)
theorem few_foldQ : ∀ (l : List Qn) (st : WS) (k : Nat), fewO st.2 k → fewO (l.foldl putQ st).2 (k + 254 * l.length)
 | [], st, k, h => h
 | q :: l, st, k, h => (few_foldQ l (putQ st q) (k + 254) (few_putQ h q)).mono (by simp; omega)
theorem few_foldR : ∀ (l : List RR) (st : WS) (k : Nat), fewO st.2 k → fewO (l.foldl putRec st).2 (k + 762 * l.length)
 | [], st, k, h => h
 | r :: l, st, k, h => (few_foldR l (putRec st r) (k + 762) (few_putRec h r)).mono (by simp; omega)
theorem few_start (m : Msg) (pack : Bool) : fewO (startM m pack).2 0 := by
  intro T' h
  cases pack with
  | false => cases h
  | true => obtain rfl : [] = T' := by simpa [startM] using h
            simp
theorem encM_bad {m : Msg} (pack : Bool) (h : checkM m ≠ 0) : encM m pack = ([], checkM m) := by unfold encM; rw [if_pos h]
theorem encM_long {m : Msg} (pack : Bool) (h : checkM m = 0) (hl : 65535 < (encS m pack).1.length) : encM m pack = ([], 3) := by unfold encM; rw [if_neg (by simp [h]), if_pos hl]
theorem encM_ok {m : Msg} (pack : Bool) (h : checkM m = 0) (hl : ¬ 65535 < (encS m pack).1.length) : encM m pack = ((encS m pack).1, 0) := by unfold encM; rw [if_neg (by simp [h]), if_neg hl]
theorem encS_eq (m : Msg) (pack : Bool) : encS m pack = m.ex.foldl putRec (m.au.foldl putRec (m.an.foldl putRec (m.qs.foldl putQ (startM m pack)))) := by
 unfold encS Msg.rrs
 rw [List.foldl_append, List.foldl_append]
theorem start_len (m : Msg) (pack : Bool) : (startM m pack).1.length = 12 := by simp [startM, putHead, putB_length]
theorem wpList_cvt {P : Program} {ops : Array Oper} {rest : List Oper} {o : Oper} {a : Act} {w : World} {Q : Exit → Act → World → Prop} (hgd : o.guard = none) (t1 t2 : TypeId) (x : Operand) (ho : o.op = .convert t1 t2 x) (v : Value) (hx : a.eval x = v) {v' : Value} {w' : World}
  (hr : (convert t1 t2 v).run P w = .ok v' w') (h : wpList P ops Q rest (a.put o.dst v') w') : wpList P ops Q (o :: rest) a w := by
 refine wpList_plain hgd fun K hK => ?_
 unfold Oper.wp execOp
 simp only [ho, hx, Sem.run_bind, hr, Result.andThen_ok, Sem.run_pure]
 exact hK _ _ h
theorem TabO.grown {lo : Nat} {w w' : World} {p : Option Addr} {T : Option Tab} {row : Option Nat} (h : TabO lo w p T) (hg : w.grownBy w' row) (hne : ∀ k, row = some k → ∃ cs t fz, w.heap[k]? = some (.cells cs t fz) ∧ t ≠ 425) : TabO lo w' p T := by
 cases T with
 | none => exact h
 | some T =>
  obtain ⟨g, b, h1, h2, h3, h4, ⟨f, h5, h6⟩, h7⟩ := h
  have n1 : some g ≠ row := by
   intro he
   obtain ⟨cs, t, fz, hh, ht⟩ := hne g he.symm
   have h4' : w.heap[g]? = _ := h4
   rw [hh] at h4'
   injection h4' with h4'
   injection h4' with _ h4'
   exact ht h4'
  have n2 : some b ≠ row := by
   intro he
   obtain ⟨cs, t, fz, hh, ht⟩ := hne b he.symm
   obtain ⟨D, ⟨es, cl, hm, _⟩, _⟩ := h5
   rw [hh] at hm; cases hm
  exact ⟨g, b, h1, h2, h3, h4.grown hg n1, ⟨f, h5.kept hg n2, h6⟩, h7⟩
def WrAt (lo : Nat) (w : World) (gw : Nat) (s : List UInt8) (p : Option Addr) (T : Option Tab) : Prop :=
 ∃ A c, lo ≤ gw ∧ Blk w gw 403 [.slice A s.length c, .pointer p] ∧ OwnB w lo (.slice A s.length c) s ∧ TabO lo w p T
theorem WrAt.below {lo : Nat} {w w' : World} {gw : Nat} {s : List UInt8} {p : Option Addr} {T : Option Tab} (h : WrAt lo w gw s p T) (hb : Below w.heap.size w w') : WrAt lo w' gw s p T := by
 obtain ⟨A, c, h1, h2, h3, h4⟩ := h
 exact ⟨A, c, h1, h2.below hb h2.lt, h3.below hb, h4.below hb⟩
def KeepW (lo : Nat) (w w' : World) : Prop := Below lo w w' ∧ ∀ g t cs, Blk w g t cs → t ≠ 403 → t ≠ 5 → Blk w' g t cs
theorem KeepW.trans {lo : Nat} {w w1 w2 : World} (h : KeepW lo w w1) (h' : KeepW lo w1 w2) : KeepW lo w w2 := ⟨h.1.trans h'.1, fun k t cs hb h1 h2 => h'.2 k t cs (h.2 k t cs hb h1 h2) h1 h2⟩
theorem KeepW.old {lo : Nat} {w w1 : World} (h : Below w.heap.size w w1) (hlo : lo ≤ w.heap.size) : KeepW lo w w1 := ⟨h.mono hlo, fun k t cs hb _ _ => hb.below h hb.lt⟩
theorem KeepW.ofKeep {lo : Nat} {w w1 : World} (h : Keep lo w w1) : KeepW lo w w1 := ⟨h.1, fun k t cs hb _ _ => h.blk hb⟩
theorem KeepW.size {lo : Nat} {w w1 : World} (h : KeepW lo w w1) (hlo : lo ≤ w.heap.size) : lo ≤ w1.heap.size := below_size_le h.1 hlo
theorem wr_step {lo gw : Nat} {w w1 w2 : World} {s x : List UInt8} {p : Option Addr} {T : Option Tab} {A A' : Option Addr} {c c' : Nat} (hlo : lo ≤ w.heap.size) (h1 : lo ≤ gw) (h2 : Blk w gw 403 [.slice A s.length c, .pointer p]) (h3 : OwnB w lo (.slice A s.length c) s) (h4 : TabO lo w p T)
  (k1 : OwnB w1 lo (.slice A' (s ++ x).length c') (s ++ x)) (g1 : w.grownBy w1 (Value.slice A s.length c).ownBlock) (k2 : Blk w2 gw 403 [.slice A' (s ++ x).length c', .pointer p]) (g2 : w1.grownBy w2 (some gw)) :
  WrAt lo w2 gw (s ++ x) p T ∧ KeepW lo w w2 := by
 have b1 : Blk w1 gw 403 [.slice A s.length c, .pointer p] := h2.grown g1 (h3.ne h2 (by decide))
 have t1 : TabO lo w1 p T := h4.grown g1 (by
  intro k hk
  rcases h3 with ⟨hv, _⟩ | ⟨g, cap, cur, fz, hv, hB, hh, _⟩
  ·
   rw [hv] at hk; simp [Value.ownBlock] at hk
  ·
   rw [hv] at hk
   obtain rfl : g = k := by simpa [Value.ownBlock] using hk
   exact ⟨_, _, _, hh, by decide⟩)
 have t2 : TabO lo w2 p T := t1.grown g2 (by
  intro k hk
  obtain rfl := Option.some.inj hk
  exact ⟨_, _, _, b1, by decide⟩)
 have o2 : OwnB w2 lo (.slice A' (s ++ x).length c') (s ++ x) := k1.kept g2 (.inr (fun he => k1.ne b1 (by decide) he.symm))
 have B1 : Below lo w w1 := (Below.refl _ _).grown g1 hlo h3.base
 have B2 : Below lo w w2 := below_grown B1 g2 (below_size_le B1 hlo) h1
 refine ⟨⟨A', c', h1, k2, o2, t2⟩, B2, fun g t cs hb n1 n2 => ?_⟩
 have hb1 : Blk w1 g t cs := hb.grown g1 (h3.ne hb n2)
 refine hb1.grown g2 ?_
 intro he
 obtain rfl := Option.some.inj he
 have hh : w1.heap[g]? = _ := hb1
 have b1' : w1.heap[g]? = _ := b1
 rw [hh] at b1'
 injection b1' with b1'
 injection b1' with _ b1'
 exact n1 b1'
def WDone (lo gw : Nat) (p : Option Addr) (v : Value) (s : List UInt8) (T : Option Tab) (w : World) (x : Ending) (w' : World) : Prop :=
 x = .returned v ∧ WrAt lo w' gw s p T ∧ KeepW lo w w'
theorem bytesInfo1 : (prog.info? 131).map (·.size) = some 1 := by kernel_rfl
theorem exec_app {w w' : World} {v v' : Value} {x : List UInt8} {ty : TypeId} {o : Oper} {a : Act} (sl y : Operand) (ho : o.op = .call { callee := .builtin .append, args := #[sl, y], argTypes := #[131, 9] }) (hty : o.type = ty) (hs : a.eval sl = v) (hy : a.eval y = .string (bs x))
  (hr : (Builtin.append_ #[131, 9] ty #[v, .string (bs x)]).run prog w = .ok v' w') : (execOp a.eval o).run prog w = .ok (.value v') w' := by
 subst hty
 unfold execOp
 simp only [ho, resolve, invoke, builtin, Sem.run_bind, Sem.run_pure, Result.andThen_ok, List.map_toArray, List.map_cons, List.map_nil, hs, hy, hr]
set_option maxHeartbeats 2000000 in
theorem wnum_any (lo gw : Nat) (s : List UInt8) (p : Option Addr) (T : Option Tab) (width n : Int) (w : World) (hW : WrAt lo w gw s p T) (hlo : lo ≤ w.heap.size) (hl : s.length ≤ 10000000) :
  Calls prog 323 #[.pointer (some ⟨gw, 0, none⟩), .int .i64 width, .int .i64 n] w (WDone lo gw p (.tuple #[]) (s ++ putB (hw width) n) T w) := by
 obtain ⟨A, c, h1, h2, h3, h4⟩ := hW
 have P := Hh (fun w => put_any width n w)
 have xl : (putB (hw width) n).length ≤ 4 := by rw [putB_length]; exact hw_le width
 generalize putB (hw width) n = x at *
 go_enter func323, ntmps323
 go_wp2_with fail
 refine wp_region_held_drew (S := fun _ => True) (by kernel_rfl) trivial (fun hS => ?_)
 have hD : Below w.heap.size w w.drew := (Below.refl _ _).drew
 (refine held_val 0 (some 6) rfl rfl (by kernel_rfl) (by kernel_rfl) (by kernel_rfl) (fun _ _ _ h => h) (by kernel_rfl) (fun W hW => rfl) hS ?_; simp only [Act.put, lsA, lsB, lsC])
 (refine held_val 1 (some 7) rfl rfl (by kernel_rfl) (by kernel_rfl) (by kernel_rfl) (fun _ _ _ h => h) (by kernel_rfl) (fun W hW => rfl) hS ?_; simp only [Act.put, lsA, lsB, lsC])
 (refine held_val 2 (some 8) rfl rfl (by kernel_rfl) (by kernel_rfl) (by kernel_rfl) (fun _ _ _ h => h) (by kernel_rfl) (fun W hW => rfl) hS ?_; simp only [Act.put, lsA, lsB, lsC])
 (refine held_val 3 (some 9) rfl rfl (by kernel_rfl) (by kernel_rfl) (by kernel_rfl) (fun _ _ _ h => h) (by kernel_rfl) (fun W hW => rfl) hS ?_; simp only [Act.put, lsA, lsB, lsC])
 (refine held_val 5 (some 11) rfl rfl (by kernel_rfl) (by kernel_rfl) (by kernel_rfl) (fun _ _ _ h => h) (by kernel_rfl) (fun W hW => rfl) hS ?_; simp only [Act.put, lsA, lsB, lsC])
 (refine held_val 6 (some 12) rfl rfl (by kernel_rfl) (by kernel_rfl) (by kernel_rfl) (fun _ _ _ h => h) (by kernel_rfl) (fun W hW => rfl) hS ?_; simp only [Act.put, lsA, lsB, lsC])
 refine ord_two 4 7 (by kernel_rfl) ?_ ?_
 ·
  refine opw_ld 4 (some 10) 131 (.tmp 9) ⟨gw, 0, none⟩ rfl rfl rfl rfl (by kernel_rfl) (run_load1 underlying131 rfl (h2.cell_ 0 rfl)) ?_
  refine ⟨trivial, ?_⟩
  simp only [Act.put, lsA, lsB, lsC]
  refine ord_one 7 (by kernel_rfl) ?_
  refine opw_call 7 (some 13) 320 #[.int .i64 width, .int .i64 n] rfl rfl (by kernel_rfl) (by go_simp) (P.out _) ?_
  rintro _ w1 ⟨rfl, b1⟩
  replace b1 := hD.trans b1
  refine ⟨_, rfl, trivial, ?_⟩
  simp only [Act.put, lsA, lsB, lsC]
  obtain ⟨v', w2, hr, k1, g1⟩ := run_appB w1 131 lo _ s x (h3.below b1) (Nat.le_trans hlo b1.size) (by omega)
  obtain ⟨A', c', rfl⟩ := k1.form
  refine ord_one 8 (by kernel_rfl) ?_
  refine opw_run 8 (some 14) rfl rfl (by kernel_rfl) (exec_app (.tmp 10) (.tmp 13) rfl rfl rfl rfl hr) ?_
  refine ⟨trivial, ?_⟩
  simp only [Act.put, lsA, lsB, lsC]
  (refine held_val 9 (some 15) rfl rfl (by kernel_rfl) (by kernel_rfl) (by kernel_rfl) (fun _ _ _ h => h) (by kernel_rfl) (fun W hW => rfl) hS ?_; simp only [Act.put, lsA, lsB, lsC])
  (refine held_val 10 (some 16) rfl rfl (by kernel_rfl) (by kernel_rfl) (by kernel_rfl) (fun _ _ _ h => h) (by kernel_rfl) (fun W hW => rfl) hS ?_; simp only [Act.put, lsA, lsB, lsC])
  refine ord_one 11 (by kernel_rfl) ?_
  have B2 := (h2.below b1 h2.lt).grown g1 ((h3.below b1).ne (h2.below b1 h2.lt) (by decide))
  refine opw_stC 11 131 (.tmp 16) (.tmp 14) rfl rfl rfl (by kernel_rfl) gw 0 rfl _ rfl B2 (by simp) bytesInfo1 rfl rfl ?_
  intro w3 hb3 hg3 hs3
  refine ⟨trivial, ?_⟩
  simp only [Act.put, lsA, lsB, lsC]
  refine wpAnyH_done (by kernel_rfl) ?_ _
  obtain ⟨R1, R2⟩ := wr_step (x := x) (Nat.le_trans hlo b1.size) h1 (h2.below b1 h2.lt) (h3.below b1) (h4.below b1) k1 g1 hb3 hg3
  have R3 := (KeepW.old b1 hlo).trans R2
  clear hb3 hg3 hs3 B2 g1 k1 hr R2
  go_wp2_with fail
  go_end0
  exact ⟨rfl, R1, R3⟩
 ·
  refine opw_call 7 (some 13) 320 #[.int .i64 width, .int .i64 n] rfl rfl (by kernel_rfl) (by go_simp) (P.out _) ?_
  rintro _ w1 ⟨rfl, b1⟩
  replace b1 := hD.trans b1
  refine ⟨_, rfl, trivial, ?_⟩
  simp only [Act.put, lsA, lsB, lsC]
  refine ord_one 4 (by kernel_rfl) ?_
  refine opw_ld 4 (some 10) 131 (.tmp 9) ⟨gw, 0, none⟩ rfl rfl rfl rfl (by kernel_rfl) (run_load1 underlying131 rfl ((h2.below b1 h2.lt).cell_ 0 rfl)) ?_
  refine ⟨trivial, ?_⟩
  simp only [Act.put, lsA, lsB, lsC]
  obtain ⟨v', w2, hr, k1, g1⟩ := run_appB w1 131 lo _ s x (h3.below b1) (Nat.le_trans hlo b1.size) (by omega)
  obtain ⟨A', c', rfl⟩ := k1.form
  refine ord_one 8 (by kernel_rfl) ?_
  refine opw_run 8 (some 14) rfl rfl (by kernel_rfl) (exec_app (.tmp 10) (.tmp 13) rfl rfl rfl rfl hr) ?_
  refine ⟨trivial, ?_⟩
  simp only [Act.put, lsA, lsB, lsC]
  (refine held_val 9 (some 15) rfl rfl (by kernel_rfl) (by kernel_rfl) (by kernel_rfl) (fun _ _ _ h => h) (by kernel_rfl) (fun W hW => rfl) hS ?_; simp only [Act.put, lsA, lsB, lsC])
  (refine held_val 10 (some 16) rfl rfl (by kernel_rfl) (by kernel_rfl) (by kernel_rfl) (fun _ _ _ h => h) (by kernel_rfl) (fun W hW => rfl) hS ?_; simp only [Act.put, lsA, lsB, lsC])
  refine ord_one 11 (by kernel_rfl) ?_
  have B2 := (h2.below b1 h2.lt).grown g1 ((h3.below b1).ne (h2.below b1 h2.lt) (by decide))
  refine opw_stC 11 131 (.tmp 16) (.tmp 14) rfl rfl rfl (by kernel_rfl) gw 0 rfl _ rfl B2 (by simp) bytesInfo1 rfl rfl ?_
  intro w3 hb3 hg3 hs3
  refine ⟨trivial, ?_⟩
  simp only [Act.put, lsA, lsB, lsC]
  refine wpAnyH_done (by kernel_rfl) ?_ _
  obtain ⟨R1, R2⟩ := wr_step (x := x) (Nat.le_trans hlo b1.size) h1 (h2.below b1 h2.lt) (h3.below b1) (h4.below b1) k1 g1 hb3 hg3
  have R3 := (KeepW.old b1 hlo).trans R2
  clear hb3 hg3 hs3 B2 g1 k1 hr R2
  go_wp2_with fail
  go_end0
  exact ⟨rfl, R1, R3⟩
set_option maxHeartbeats 2000000 in
theorem wname_any (lo gw : Nat) (s : List UInt8) (p : Option Addr) (T : Option Tab) (An : Option Addr) (cn : Nat) (n : List (List UInt8)) (w : World) (hW : WrAt lo w gw s p T) (hN : NmR w An cn n) (hlo : lo ≤ w.heap.size) (hl : s.length ≤ 10000000) (hf : fewO T 900000) :
  Calls prog 322 #[.pointer (some ⟨gw, 0, none⟩), .slice An n.length cn] w (WDone lo gw p (.int .i64 (checkN n)) (s ++ putSO T s.length n) (putTO T s.length n) w) := by
 obtain ⟨A, c, h1, h2, h3, h4⟩ := hW
 have P := Hh (fun w' (b : Below w.heap.size w w') => putO_any lo p T An cn n (s.length : Int) w' (Nat.le_trans hlo b.size) (h4.below b) (hN.below b) hf)
 have xl := putSO_len T (s.length : Int) n
 generalize putSO T (s.length : Int) n = x at *
 generalize putTO T (s.length : Int) n = T' at *
 generalize checkN n = e at *
 generalize n.length = nl at *
 clear hN hf h4
 go_enter func322, ntmps322
 go_wp2_with fail
 refine wp_region_held_drew (S := fun W => Blk W gw 403 [.slice A s.length c, .pointer p]) (by kernel_rfl) h2.drew (fun hS => ?_)
 have hD : Below w.heap.size w w.drew := (Below.refl _ _).drew
 (refine held_val 0 (some 8) rfl rfl (by kernel_rfl) (by kernel_rfl) (by kernel_rfl) (fun _ _ _ h => h) (by kernel_rfl) (fun W hW => rfl) hS ?_; simp only [Act.put, lsA, lsB, lsC])
 (refine held_val 1 (some 9) rfl rfl (by kernel_rfl) (by kernel_rfl) (by kernel_rfl) (fun _ _ _ h => h) (by kernel_rfl) (fun W hW => rfl) hS ?_; simp only [Act.put, lsA, lsB, lsC])
 (refine held_val 2 (some 10) rfl rfl (by kernel_rfl) (by kernel_rfl) (by kernel_rfl) (fun _ _ _ h => h) (by kernel_rfl) (fun W hW => rfl) hS ?_; simp only [Act.put, lsA, lsB, lsC])
 refine held_ld 3 (some 11) 401 (.tmp 10) ⟨gw, 1, none⟩ rfl rfl rfl rfl (by kernel_rfl) (by kernel_rfl) (by kernel_rfl) (fun _ _ _ h => h) (by kernel_rfl) (fun W hW => run_load1 underlying401 rfl (hW.cell_ 1 rfl)) hS ?_
 simp only [Act.put, lsA, lsB, lsC]
 (refine held_val 4 (some 12) rfl rfl (by kernel_rfl) (by kernel_rfl) (by kernel_rfl) (fun _ _ _ h => h) (by kernel_rfl) (fun W hW => rfl) hS ?_; simp only [Act.put, lsA, lsB, lsC])
 (refine held_val 5 (some 13) rfl rfl (by kernel_rfl) (by kernel_rfl) (by kernel_rfl) (fun _ _ _ h => h) (by kernel_rfl) (fun W hW => rfl) hS ?_; simp only [Act.put, lsA, lsB, lsC])
 (refine held_val 6 (some 14) rfl rfl (by kernel_rfl) (by kernel_rfl) (by kernel_rfl) (fun _ _ _ h => h) (by kernel_rfl) (fun W hW => rfl) hS ?_; simp only [Act.put, lsA, lsB, lsC])
 (refine held_val 7 (some 15) rfl rfl (by kernel_rfl) (by kernel_rfl) (by kernel_rfl) (fun _ _ _ h => h) (by kernel_rfl) (fun W hW => rfl) hS ?_; simp only [Act.put, lsA, lsB, lsC])
 refine held_ld 8 (some 16) 131 (.tmp 15) ⟨gw, 0, none⟩ rfl rfl rfl rfl (by kernel_rfl) (by kernel_rfl) (by kernel_rfl) (fun _ _ _ h => h) (by kernel_rfl) (fun W hW => run_load1 underlying131 rfl (hW.cell_ 0 rfl)) hS ?_
 simp only [Act.put, lsA, lsB, lsC]
 refine held_val 9 (some 17) (v := .int .i64 (s.length : Int)) rfl rfl (by kernel_rfl) (by kernel_rfl) (by kernel_rfl) (fun _ _ _ h => h) (by kernel_rfl) (fun W hW => by go_simp) hS ?_
 simp only [Act.put, lsA, lsB, lsC]
 refine held_call 10 (some 18) 340 #[.pointer p, .slice An nl cn, .int .i64 (s.length : Int)] (by kernel_rfl) rfl rfl (by kernel_rfl) (by go_simp) (P.out _ hD) ?_
 rintro _ w1 ⟨rfl, hT1, hK1⟩
 have B1 := hK1.blk h2.drew
 have O1 : OwnB w1 lo (.slice A s.length c) s := by
  rcases h3 with hn | ⟨g, cap, cur, fz, hv, hB, hh, rest⟩
  ·
   exact .inl hn
  ·
   exact .inr ⟨g, cap, cur, fz, hv, hB, hK1.2 g _ cur fz hh, rest⟩
 have K1 : KeepW lo w w1 := (KeepW.old hD hlo).trans (KeepW.ofKeep hK1)
 have hlo1 := K1.size hlo
 refine ⟨_, rfl, B1, ?_⟩
 clear hS hK1 P hD h2 h3
 have hS := B1
 simp only [Act.put, lsA, lsB, lsC]
 (refine held_val 11 (some 7) rfl rfl (by kernel_rfl) (by kernel_rfl) (by kernel_rfl) (fun _ _ _ h => h) (by kernel_rfl) (fun W hW => rfl) hS ?_; simp only [Act.put, lsA, lsB, lsC])
 (refine held_val 12 (some 19) rfl rfl (by kernel_rfl) (by kernel_rfl) (by kernel_rfl) (fun _ _ _ h => h) (by kernel_rfl) (fun W hW => rfl) hS ?_; simp only [Act.put, lsA, lsB, lsC])
 (refine held_val 13 (some 20) rfl rfl (by kernel_rfl) (by kernel_rfl) (by kernel_rfl) (fun _ _ _ h => h) (by kernel_rfl) (fun W hW => rfl) hS ?_; simp only [Act.put, lsA, lsB, lsC])
 (refine held_val 14 (some 5) rfl rfl (by kernel_rfl) (by kernel_rfl) (by kernel_rfl) (fun _ _ _ h => h) (by kernel_rfl) (fun W hW => rfl) hS ?_; simp only [Act.put, lsA, lsB, lsC])
 (refine held_val 15 (some 6) rfl rfl (by kernel_rfl) (by kernel_rfl) (by kernel_rfl) (fun _ _ _ h => h) (by kernel_rfl) (fun W hW => rfl) hS ?_; simp only [Act.put, lsA, lsB, lsC])
 refine wpAnyH_done (by kernel_rfl) ?_ _
 clear hS
 have c0 := B1.cell_ 0 rfl
 go_wp2_with (at_builtin; go_must (refine wpList_appB' _ rfl (.tmp 25) (.tmp 26) rfl lo _ s x rfl O1 hlo1 rfl (by omega) ?_))
 intro A' c' w2 k1 g1
 have B2 := B1.grown g1 (O1.ne B1 (by decide))
 clear c0
 go_wp2_with (refine at_op (.store 131 (.tmp 29) (.tmp 27)) rfl ?_; go_must (refine wpList_stC rfl 131 (.tmp 29) (.tmp 27) rfl gw 0 rfl _ rfl B2 (by simp) bytesInfo1 rfl rfl ?_))
 intro w3 hb3 hg3 hs3
 rw [← List.length_append] at hb3 k1
 obtain ⟨R1, R2⟩ := wr_step (x := x) hlo1 h1 B1 O1 hT1 k1 g1 hb3 hg3
 have R3 := K1.trans R2
 clear hb3 hg3 hs3 B2 g1 k1 R2 B1 O1
 go_wp2_with fail
 go_ret
 exact ⟨rfl, R1, R3⟩
theorem KeepW.blkQ {lo : Nat} {w w' : World} (h : KeepW lo w w') {g : Nat} {cs : List Value} (hb : Blk w g 218 cs) : Blk w' g 218 cs := h.2 g _ cs hb (by decide) (by decide)
theorem KeepW.blkR {lo : Nat} {w w' : World} (h : KeepW lo w w') {g : Nat} {cs : List Value} (hb : Blk w g 96 cs) : Blk w' g 96 cs := h.2 g _ cs hb (by decide) (by decide)
theorem wnum2_any (lo gw : Nat) (s : List UInt8) (p : Option Addr) (T : Option Tab) (n : Int) (w : World) (hW : WrAt lo w gw s p T) (hlo : lo ≤ w.heap.size) (hl : s.length ≤ 10000000) :
  Calls prog 323 #[.pointer (some ⟨gw, 0, none⟩), .int .i64 2, .int .i64 n] w (WDone lo gw p (.tuple #[]) (s ++ putB 2 n) T w) := wnum_any lo gw s p T 2 n w hW hlo hl
theorem wnum4_any (lo gw : Nat) (s : List UInt8) (p : Option Addr) (T : Option Tab) (n : Int) (w : World) (hW : WrAt lo w gw s p T) (hlo : lo ≤ w.heap.size) (hl : s.length ≤ 10000000) :
  Calls prog 323 #[.pointer (some ⟨gw, 0, none⟩), .int .i64 4, .int .i64 n] w (WDone lo gw p (.tuple #[]) (s ++ putB 4 n) T w) := wnum_any lo gw s p T 4 n w hW hlo hl
theorem wquestion_any (lo gw : Nat) (st : WS) (p : Option Addr) (An : Option Addr) (cn : Nat) (q : Qn) (w0 w : World) (hW : WrAt lo w gw st.1 p st.2) (hN : NmR w0 An cn q.name) (h0 : w0.heap.size ≤ lo) (hb0 : Below w0.heap.size w0 w) (hlo : lo ≤ w.heap.size) (hl : st.1.length ≤ 5000000) (hf : fewO st.2 900000) :
  Calls prog 298 #[.pointer (some ⟨gw, 0, none⟩), .agg (qC (.slice An q.name.length cn) q).toArray] w (WDone lo gw p (.int .i64 (checkN q.name)) (putQ st q).1 (putQ st q).2 w) := by
 have P := Hh (fun w' (b : Below w.heap.size w w') => wname_any lo gw st.1 p st.2 An cn q.name w' (hW.below b) ((hN.below hb0).below b) (Nat.le_trans hlo b.size) (by omega) hf)
 have xl := putSO_len st.2 (st.1.length : Int) q.name
 have y1 := putB_length 2 q.ty
 obtain ⟨s', hs'⟩ : ∃ s', s' = (putQ st q).1 := ⟨_, rfl⟩
 rw [← hs']
 have HS := Hh hs'
 clear hs'
 replace HS : Hid (s' = st.1 ++ putSO st.2 st.1.length q.name ++ putB 2 q.ty ++ putB 2 q.cl) := HS
 have hT' : (putQ st q).2 = putTO st.2 st.1.length q.name := rfl
 rw [hT']
 clear hT'
 have N1 := Hh (fun w' (hW : WrAt lo w' gw (st.1 ++ putSO st.2 st.1.length q.name) p (putTO st.2 st.1.length q.name)) (hlo : lo ≤ w'.heap.size) => wnum2_any lo gw _ p _ q.ty w' hW hlo (by simp; omega))
 have N2 := Hh (fun w' (hW : WrAt lo w' gw (st.1 ++ putSO st.2 st.1.length q.name ++ putB 2 q.ty) p (putTO st.2 st.1.length q.name)) (hlo : lo ≤ w'.heap.size) => wnum2_any lo gw _ p _ q.cl w' hW hlo (by simp [y1]; omega))
 generalize st.1 ++ putSO st.2 st.1.length q.name ++ putB 2 q.ty ++ putB 2 q.cl = s3 at *
 obtain rfl := HS.out
 clear HS
 generalize st.1 ++ putSO st.2 st.1.length q.name ++ putB 2 q.ty = s2 at *
 generalize st.1 ++ putSO st.2 st.1.length q.name = s1 at *
 generalize putTO st.2 st.1.length q.name = T1 at *
 generalize checkN q.name = e at *
 unfold qC
 generalize q.name.length = nl at *
 generalize q.ty = ty at *
 generalize q.cl = cl at *
 clear hN hb0 hf hW xl y1
 have B0 := Blk.new w 218 [.slice An nl cn, .int .i64 ty, .int .i64 cl]
 have HB0 : Below w.heap.size w (w.alloc (.cells #[.slice An nl cn, .int .i64 ty, .int .i64 cl] 218)) := (Below.refl _ _).alloc (Nat.le_refl _) _
 have c0 := B0.cell_ 0 rfl
 go_enter func298, ntmps298
 go_wp2_with fail
 refine (P.out _ HB0).mono ?_
 rintro _ w1 ⟨rfl, W1, K1⟩
 have B1 := K1.blkQ B0
 have K1' : KeepW lo w w1 := (KeepW.old HB0 hlo).trans K1
 clear c0 P K1 B0 HB0
 have c1 := B1.cell_ 1 rfl
 go_wp2_with fail
 refine (N1.out _ W1 (K1'.size hlo)).mono ?_
 rintro _ w2 ⟨rfl, W2, K2⟩
 have B2 := K2.blkQ B1
 have K2' : KeepW lo w w2 := K1'.trans K2
 clear c1 N1 K2 B1 K1' W1
 have c2 := B2.cell_ 2 rfl
 go_wp2_with fail
 refine (N2.out _ W2 (K2'.size hlo)).mono ?_
 rintro _ w3 ⟨rfl, W3, K3⟩
 have K3' : KeepW lo w w3 := K2'.trans K3
 clear c2 N2 K3 B2 K2' W2
 go_wp2_with fail
 go_ret
 exact ⟨rfl, W3, K3'⟩
theorem room_any (lo gw : Nat) (s : List UInt8) (p : Option Addr) (T : Option Tab) (e : Int) (w : World) (hW : WrAt lo w gw s p T) (hl : s.length ≤ 10000000) :
  Calls prog 297 #[.pointer (some ⟨gw, 0, none⟩), .int .i64 e] w (Ret (.int .i64 (if e = 0 ∧ 65535 < s.length then 3 else e)) w) := by
 obtain ⟨A, c, h1, h2, h3, h4⟩ := hW
 have c0 := h2.cell_ 0 rfl
 by_cases he : e = 0
 ·
  have e1 : (e == 0) = true := by simpa using he
  by_cases hs : 65535 < s.length
  ·
   have e2 : (65535 : Int) < s.length := by omega
   rw [if_pos ⟨he, hs⟩]
   go_enter func297, ntmps297
   go_wp2_with fail
   go_ret
   exact Ret.mk rfl rfl
  ·
   have e2 : ¬ (65535 : Int) < s.length := by omega
   rw [if_neg (fun h => hs h.2)]
   go_enter func297, ntmps297
   go_wp2_with fail
   go_ret
   exact Ret.mk rfl rfl
 ·
  have e1 : (e == 0) = false := by simpa using he
  rw [if_neg (fun h => he h.1)]
  clear he
  go_enter func297, ntmps297
  go_wp2_with fail
  go_ret
  exact Ret.mk rfl rfl
theorem dataR_len {r : RR} (hw : r.wf) (hc : checkR r = 0) (T : Option Tab) (at_ : Int) : (dataR T at_ r).length ≤ 70000 := by
 have hE := (hasE_ok hc).2
 have h16 := hw.1
 have h5 := hw.2
 unfold dataR
 unfold hasE at hE
 split
 ·
  simp; omega
 split
 ·
  omega
 split
 ·
  have := putSO_len T at_ r.tg; omega
 split
 ·
  have := putSO_len none 0 r.tg
  have e : putSO none 0 r.tg = putZ r.tg := rfl
  rw [e] at this
  simp [putB_length]; omega
 split
 ·
  have a1 := putSO_len T at_ r.tg
  have a2 := putSO_len (putTO T at_ r.tg) (at_ + (putSO T at_ r.tg).length) r.ml
  have a3 : (r.nums.flatMap (putB 4)).length = 20 := by
   match r.nums, h5 with
   | [a, b, c, d, e], _ => simp [putB_length]
  simp only [List.length_append]
  omega
 ·
  rw [if_neg ‹_›, if_neg ‹_›, if_neg ‹_›, if_neg ‹_›, if_neg ‹_›] at hE
  by_cases h : 65535 < r.raw.length
  ·
   rw [if_pos h] at hE; cases hE
  ·
   omega
set_option maxHeartbeats 2000000 in
theorem wrecord_any (lo gw : Nat) (st : WS) (p : Option Addr) (cs : List Value) (r : RR) (w0 w : World) (hW : WrAt lo w gw st.1 p st.2) (hR : RRis w0 cs r) (h0 : w0.heap.size ≤ lo) (hb0 : Below w0.heap.size w0 w) (hlo : lo ≤ w.heap.size) (hl : st.1.length ≤ 500000) (hf : fewO st.2 700000) (hc : checkR r = 0) :
  Calls prog 300 #[.pointer (some ⟨gw, 0, none⟩), .agg cs.toArray] w (WDone lo gw p (.int .i64 0) (putRec st r).1 (putRec st r).2 w) := by
 have hname := (hasE_ok hc).1
 obtain ⟨An, cn, L0, hN, hwf, hcl⟩ : ∃ An cn, cs[0]? = some (.slice An r.name.length cn) ∧ NmR w0 An cn r.name ∧ r.wf ∧ cs.length = 33 := by
  obtain ⟨An, cn, At, ct, Am, cm, rfl, hr, hN, _⟩ := hR; exact ⟨An, cn, rfl, hN, hr, rrC_len hr⟩
 have L1 : cs[1]? = some (.int .i64 r.ty) := by obtain ⟨_, _, _, _, _, _, rfl, hr, _⟩ := hR; rfl
 have L2 : cs[2]? = some (.int .i64 r.cl) := by obtain ⟨_, _, _, _, _, _, rfl, hr, _⟩ := hR; rfl
 have L3 : cs[3]? = some (.int .i64 r.ttl) := by obtain ⟨_, _, _, _, _, _, rfl, hr, _⟩ := hR; rfl
 have P := Hh (fun w' (b : Below w.heap.size w w') => wname_any lo gw st.1 p st.2 An cn r.name w' (hW.below b) ((hN.below hb0).below b) (Nat.le_trans hlo b.size) (by omega) (fun T' h => Nat.le_trans (hf T' h) (by omega)))
 rw [hname] at P
 have xl := putSO_len st.2 (st.1.length : Int) r.name
 have y1 := putB_length 2 r.ty
 have y2 := putB_length 2 r.cl
 have y3 := putB_length 4 r.ttl
 have hfT : fewO (recT st r) 800000 := fun T' h => Nat.le_trans ((hf.put _ _) T' h) (by omega)
 have hsl : (recS st r).length ≤ 501000 := by simp only [recS, List.length_append]; omega
 have hdl := dataR_len hwf hc (recT st r) ((recS st r).length + 2)
 have D := Hh (fun w' (b : Below lo w w') (hlo' : lo ≤ w'.heap.size) (hT' : TabO lo w' p (recT st r)) => rput_any lo cs r ((recS st r).length + 2) p (recT st r) w0 w' hR h0 (hb0.trans (b.mono h0)) hlo' hT' hfT (by omega) (by omega))
 have er1 : rputS (recT st r) ((recS st r).length + 2) r = recD st r := by unfold rputS; rw [if_pos hc]; rfl
 have er2 : rputT (recT st r) ((recS st r).length + 2) r = (putRec st r).2 := by unfold rputT; rw [if_pos hc]; rfl
 rw [er1, er2, hc] at D
 replace hdl : (recD st r).length ≤ 70000 := hdl
 have hs' : (putRec st r).1 = recS st r ++ putB 2 (recD st r).length ++ recD st r := rfl
 have y4 := putB_length 2 ((recD st r).length : Int)
 rw [hs']
 have N1 := Hh (fun w' (hW : WrAt lo w' gw (st.1 ++ putSO st.2 st.1.length r.name) p (recT st r)) (hlo : lo ≤ w'.heap.size) => wnum2_any lo gw _ p _ r.ty w' hW hlo (by simp; omega))
 have N2 := Hh (fun w' (hW : WrAt lo w' gw (st.1 ++ putSO st.2 st.1.length r.name ++ putB 2 r.ty) p (recT st r)) (hlo : lo ≤ w'.heap.size) => wnum2_any lo gw _ p _ r.cl w' hW hlo (by simp; omega))
 have N3 := Hh (fun w' (hW : WrAt lo w' gw (st.1 ++ putSO st.2 st.1.length r.name ++ putB 2 r.ty ++ putB 2 r.cl) p (recT st r)) (hlo : lo ≤ w'.heap.size) => wnum4_any lo gw _ p _ r.ttl w' hW hlo (by simp; omega))
 have N4 := Hh (fun w' (hW : WrAt lo w' gw (recS st r) p (putRec st r).2) (hlo : lo ≤ w'.heap.size) => wnum2_any lo gw _ p _ ((recD st r).length : Int) w' hW hlo (by omega))
 have hs4l : (recS st r ++ putB 2 (recD st r).length).length ≤ 600000 := by simp only [List.length_append]; omega
 clear hs' er1 er2 hfT hR hf hN hb0 hW hwf hc
 change Hid (∀ w' : World, WrAt lo w' gw (st.1 ++ putSO st.2 st.1.length r.name ++ putB 2 r.ty ++ putB 2 r.cl) p (recT st r) → lo ≤ w'.heap.size → Calls prog 323 #[.pointer (some ⟨gw, 0, none⟩), .int .i64 4, .int .i64 r.ttl] w' (WDone lo gw p (.tuple #[]) (recS st r) (recT st r) w')) at N3
 change Hid (∀ w' : World, Below w.heap.size w w' → Calls prog 322 #[.pointer (some ⟨gw, 0, none⟩), .slice An r.name.length cn] w' (WDone lo gw p (.int .i64 0) (st.1 ++ putSO st.2 st.1.length r.name) (recT st r) w')) at P
 generalize (putRec st r).2 = T2 at *
 generalize recD st r = d at *
 generalize recS st r = s4 at *
 generalize recT st r = T1 at *
 generalize st.1 ++ putSO st.2 st.1.length r.name ++ putB 2 r.ty ++ putB 2 r.cl = s3 at *
 generalize st.1 ++ putSO st.2 st.1.length r.name ++ putB 2 r.ty = s2 at *
 generalize st.1 ++ putSO st.2 st.1.length r.name = s1 at *
 generalize r.name.length = nl at *
 generalize r.ty = ty at *
 generalize r.cl = cl at *
 generalize r.ttl = ttl at *
 clear xl y1 y2 y3
 have B0 := Blk.new w 96 cs
 have HB0 : Below w.heap.size w (w.alloc (.cells cs.toArray 96)) := (Below.refl _ _).alloc (Nat.le_refl _) _
 have c0 := B0.cell_ 0 L0
 go_enter func300, ntmps300
 go_wp2_with fail
 refine (P.out _ HB0).mono ?_
 rintro _ w1 ⟨rfl, W1, K1⟩
 have B1 := K1.blkR B0
 have K1' : KeepW lo w w1 := (KeepW.old HB0 hlo).trans K1
 clear c0 P K1 B0 HB0 L0
 have c1 := B1.cell_ 1 L1
 go_wp2_with fail
 refine (N1.out _ W1 (K1'.size hlo)).mono ?_
 rintro _ w2 ⟨rfl, W2, K2⟩
 have B2 := K2.blkR B1
 have K2' : KeepW lo w w2 := K1'.trans K2
 clear c1 N1 K2 B1 K1' W1 L1
 have c2 := B2.cell_ 2 L2
 go_wp2_with fail
 refine (N2.out _ W2 (K2'.size hlo)).mono ?_
 rintro _ w3 ⟨rfl, W3, K3⟩
 have B3 := K3.blkR B2
 have K3' : KeepW lo w w3 := K2'.trans K3
 clear c2 N2 K3 B2 K2' W2 L2
 have c3 := B3.cell_ 3 L3
 go_wp2_with fail
 refine (N3.out _ W3 (K3'.size hlo)).mono ?_
 rintro _ w4 ⟨rfl, W4, K4⟩
 have B4 := K4.blkR B3
 have K4' : KeepW lo w w4 := K3'.trans K4
 have hlo4 := K4'.size hlo
 clear c3 N3 K4 B3 K3' W3 L3
 obtain ⟨A, c, h1, h2, h3, h4⟩ := W4
 go_wp2_with fail
 have hw1 : IntKind.i64.wrap ((s4.length : Int) + 2) = (s4.length : Int) + 2 := IntWalk.i64_in _ (by omega)
 refine wp_region_held_drew (S := fun W => Blk W gw 403 [.slice A s4.length c, .pointer p] ∧ Blk W w.heap.size 96 cs) (by kernel_rfl) ⟨h2.drew, B4.drew⟩ (fun hS => ?_)
 have hD : Below w4.heap.size w4 w4.drew := (Below.refl _ _).drew
 refine held_ld 0 (some 28) 96 (.tmp 3) ⟨w.heap.size, 0, none⟩ rfl rfl rfl rfl (by kernel_rfl) (by kernel_rfl) (by kernel_rfl) (fun _ _ _ h => h) (by kernel_rfl) (fun W hW => hW.2.loads 96 0 33 (by omega) _ underlying96 rfl rrInfo cs (tk0 (by omega))) hS ?_
 simp only [Act.put, lsA, lsB, lsC]
 (refine held_val 1 (some 29) rfl rfl (by kernel_rfl) (by kernel_rfl) (by kernel_rfl) (fun _ _ _ h => h) (by kernel_rfl) (fun W hW => rfl) hS ?_; simp only [Act.put, lsA, lsB, lsC])
 (refine held_val 2 (some 30) rfl rfl (by kernel_rfl) (by kernel_rfl) (by kernel_rfl) (fun _ _ _ h => h) (by kernel_rfl) (fun W hW => rfl) hS ?_; simp only [Act.put, lsA, lsB, lsC])
 (refine held_val 3 (some 31) rfl rfl (by kernel_rfl) (by kernel_rfl) (by kernel_rfl) (fun _ _ _ h => h) (by kernel_rfl) (fun W hW => rfl) hS ?_; simp only [Act.put, lsA, lsB, lsC])
 refine held_ld 4 (some 32) 131 (.tmp 31) ⟨gw, 0, none⟩ rfl rfl rfl rfl (by kernel_rfl) (by kernel_rfl) (by kernel_rfl) (fun _ _ _ h => h) (by kernel_rfl) (fun W hW => run_load1 underlying131 rfl (hW.1.cell_ 0 rfl)) hS ?_
 simp only [Act.put, lsA, lsB, lsC]
 refine held_val 5 (some 33) (v := .int .i64 (s4.length : Int)) rfl rfl (by kernel_rfl) (by kernel_rfl) (by kernel_rfl) (fun _ _ _ h => h) (by kernel_rfl) (fun W hW => by go_simp) hS ?_
 simp only [Act.put, lsA, lsB, lsC]
 refine held_val 6 (some 34) (v := .int .i64 ((s4.length : Int) + 2)) rfl rfl (by kernel_rfl) (by kernel_rfl) (by kernel_rfl) (fun _ _ _ h => h) (by kernel_rfl) (fun W hW => by go_simp) hS ?_
 simp only [Act.put, lsA, lsB, lsC]
 (refine held_val 7 (some 35) rfl rfl (by kernel_rfl) (by kernel_rfl) (by kernel_rfl) (fun _ _ _ h => h) (by kernel_rfl) (fun W hW => rfl) hS ?_; simp only [Act.put, lsA, lsB, lsC])
 (refine held_val 8 (some 36) rfl rfl (by kernel_rfl) (by kernel_rfl) (by kernel_rfl) (fun _ _ _ h => h) (by kernel_rfl) (fun W hW => rfl) hS ?_; simp only [Act.put, lsA, lsB, lsC])
 (refine held_val 9 (some 37) rfl rfl (by kernel_rfl) (by kernel_rfl) (by kernel_rfl) (fun _ _ _ h => h) (by kernel_rfl) (fun W hW => rfl) hS ?_; simp only [Act.put, lsA, lsB, lsC])
 refine held_ld 10 (some 38) 401 (.tmp 37) ⟨gw, 1, none⟩ rfl rfl rfl rfl (by kernel_rfl) (by kernel_rfl) (by kernel_rfl) (fun _ _ _ h => h) (by kernel_rfl) (fun W hW => run_load1 underlying401 rfl (hW.1.cell_ 1 rfl)) hS ?_
 simp only [Act.put, lsA, lsB, lsC]
 refine held_call 11 (some 39) 324 #[.agg cs.toArray, .int .i64 ((s4.length : Int) + 2), .pointer p] (by kernel_rfl) rfl rfl (by kernel_rfl) (by go_simp) (D.out _ (K4'.1.trans (hD.mono hlo4)) (Nat.le_trans hlo4 hD.size) (h4.below hD)) ?_
 rintro _ w5 ⟨rfl, hT5, hK5⟩
 have B5 := hK5.blk h2.drew
 have O5 : OwnB w5 lo (.slice A s4.length c) s4 := by
  rcases h3 with hn | ⟨g, cap, cur, fz, hv, hB, hh, rest⟩
  ·
   exact .inl hn
  ·
   exact .inr ⟨g, cap, cur, fz, hv, hB, hK5.2 g _ cur fz hh, rest⟩
 have K5 : KeepW lo w w5 := (K4'.trans (KeepW.old hD hlo4)).trans (KeepW.ofKeep hK5)
 have hlo5 := K5.size hlo
 refine ⟨_, rfl, ⟨B5, hK5.blk B4.drew⟩, ?_⟩
 replace hS : Blk w5 gw 403 [.slice A s4.length c, .pointer p] ∧ Blk w5 w.heap.size 96 cs := ⟨B5, hK5.blk B4.drew⟩
 clear hK5 D hD h2 h3 h4 B4 K4' hlo4
 simp only [Act.put, lsA, lsB, lsC]
 (refine held_val 12 (some 27) rfl rfl (by kernel_rfl) (by kernel_rfl) (by kernel_rfl) (fun _ _ _ h => h) (by kernel_rfl) (fun W hW => rfl) hS ?_; simp only [Act.put, lsA, lsB, lsC])
 (refine held_val 13 (some 40) rfl rfl (by kernel_rfl) (by kernel_rfl) (by kernel_rfl) (fun _ _ _ h => h) (by kernel_rfl) (fun W hW => rfl) hS ?_; simp only [Act.put, lsA, lsB, lsC])
 (refine held_val 14 (some 41) rfl rfl (by kernel_rfl) (by kernel_rfl) (by kernel_rfl) (fun _ _ _ h => h) (by kernel_rfl) (fun W hW => rfl) hS ?_; simp only [Act.put, lsA, lsB, lsC])
 refine held_val 15 (some 6) (v := .string (bs d)) rfl rfl (by kernel_rfl) (by kernel_rfl) (by kernel_rfl) (fun _ _ _ h => h) (by kernel_rfl) (fun W hW => rfl) hS ?_
 simp only [Act.put, lsA, lsB, lsC]
 refine held_val 16 (some 7) (v := .int .i64 0) rfl rfl (by kernel_rfl) (by kernel_rfl) (by kernel_rfl) (fun _ _ _ h => h) (by kernel_rfl) (fun W hW => rfl) hS ?_
 simp only [Act.put, lsA, lsB, lsC]
 refine wpAnyH_done (by kernel_rfl) ?_ _
 clear hS
 have W5 : WrAt lo w5 gw s4 p T2 := ⟨A, c, h1, B5, O5, hT5⟩
 clear B5 O5 hT5 hw1
 go_wp2_with fail
 refine (N4.out _ W5 hlo5).mono ?_
 rintro _ w6 ⟨rfl, W6, K6⟩
 have K6' := K5.trans K6
 have hlo6 := K6'.size hlo
 clear K6 K5 W5 N4 hlo5
 generalize s4 ++ putB 2 (d.length : Int) = s5 at *
 obtain ⟨A, c, h1, h2, h3, h4⟩ := W6
 have c0 := h2.cell_ 0 rfl
 go_wp2_with (at_builtin; go_must (refine wpList_appB' _ rfl (.tmp 50) (.tmp 51) rfl lo _ s5 d rfl h3 hlo6 rfl (by omega) ?_))
 intro A' c' w7 k1 g1
 have B7 := h2.grown g1 (h3.ne h2 (by decide))
 clear c0
 go_wp2_with (refine at_op (.store 131 (.tmp 54) (.tmp 52)) rfl ?_; go_must (refine wpList_stC rfl 131 (.tmp 54) (.tmp 52) rfl gw 0 rfl _ rfl B7 (by simp) bytesInfo1 rfl rfl ?_))
 intro w8 hb8 hg8 hs8
 rw [← List.length_append] at hb8 k1
 obtain ⟨R1, R2⟩ := wr_step (x := d) hlo6 h1 h2 h3 h4 k1 g1 hb8 hg8
 have R3 := K6'.trans R2
 clear hb8 hg8 hs8 B7 g1 k1 R2 h2 h3 h4
 go_wp2_with fail
 go_ret
 exact ⟨rfl, R1, R3⟩
end Go.Proofs.YteimenplbanooaaGreatDoor
