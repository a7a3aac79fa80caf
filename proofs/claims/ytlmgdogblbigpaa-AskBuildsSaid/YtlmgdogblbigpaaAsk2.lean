/-
  Layer 24 (ask): Message.
-/
import Derived.Test.YtlmgdogblbigpaaAsk1
import Derived.Test.YtlmgdogblbigpaaSme2
namespace Go.Proofs.Ytlmgdogblbigpaa
open Go.RowKit
set_option maxRecDepth 100000
set_option linter.unusedVariables false
set_option linter.unusedSimpArgs false

def optR : RR := { RR.zero with ty := 41, cl := 1232 }
def askH (id : Int) : Hd := { Hd.zero with id := id, rd := true }
/-- A question's query. -/
def askM (q : Qn) (id : Int) (edns : Bool) : Msg := ⟨askH id, [q], [], [], if edns then [optR] else []⟩
/-- What lies from lo on is as it was. -/
def Above (lo : Nat) (w w' : World) : Prop := w.heap.size ≤ w'.heap.size ∧ ∀ i, lo ≤ i → i < w.heap.size → w'.heap[i]? = w.heap[i]?
theorem Above.refl (lo : Nat) (w : World) : Above lo w w := ⟨Nat.le_refl _, fun _ _ _ => rfl⟩
theorem Above.trans {lo : Nat} {a b c : World} (h : Above lo a b) (k : Above lo b c) : Above lo a c := ⟨Nat.le_trans h.1 k.1, fun i h1 h2 => (k.2 i h1 (Nat.lt_of_lt_of_le h2 h.1)).trans (h.2 i h1 h2)⟩
theorem Above.below {lo : Nat} {w w' : World} (h : Below w.heap.size w w') : Above lo w w' := ⟨h.size, fun i _ h2 => h.block i h2⟩
theorem Above.blk {lo : Nat} {w w' : World} (h : Above lo w w') {g : Nat} {t : TypeId} {cs : List Value} (hb : Blk w g t cs) (hg : lo ≤ g) : Blk w' g t cs := (h.2 g hg hb.lt).trans hb
theorem Above.own {lo B : Nat} {w w' : World} (h : Above lo w w') (hB : lo ≤ B) {e : TypeId} {s n : Nat} {v : Value} {xs : List Value} (ho : w.ownsRow B e s v n xs) : w'.ownsRow B e s v n xs := by
  refine ⟨ho.1, ?_⟩
  rcases ho.2 with hn | ⟨g, cap, cur, hv, hb, hh, rest⟩
  · exact .inl hn
  · exact .inr ⟨g, cap, cur, hv, hb, (h.2 g (Nat.le_trans hB hb) (heap_lt hh)).trans hh, rest⟩
theorem own_zero {B : Nat} {w : World} {e : TypeId} {s n : Nat} {v : Value} {xs : List Value} (ho : w.ownsRow B e s v n xs) : w.ownsRow 0 e s v n xs := by
  refine ⟨ho.1, ?_⟩
  rcases ho.2 with hn | ⟨g, cap, cur, hv, hb, hh, rest⟩
  · exact .inl hn
  · exact .inr ⟨g, cap, cur, hv, Nat.zero_le _, hh, rest⟩
theorem own_nm {B : Nat} {w : World} {A : Option Addr} {c : Nat} {n : List (List UInt8)} (ho : w.ownsRow B 9 1 (.slice A n.length c) n.length (strs n)) (h1 : n.length ≤ 17592186044416) (h2 : ∀ l ∈ n, l.length ≤ 140737488355328) : NmR w A c n := by
  have hT : Txts w (.slice A n.length c) n := own_zero ho
  obtain ⟨A', c', h3, h4, h5⟩ := hT.form
  injection h3 with e1 e2 e3
  subst e1
  subst e3
  exact ⟨h4, h5, h1, h2⟩
/-- What Message tells. -/
def AskRet (m : Msg) (w : World) (e : Ending) (w' : World) : Prop := ∃ cs Aq Aa Au Ae cq ca cu ce, e = .returned (.agg cs.toArray) ∧ Below w.heap.size w w' ∧ ∀ w'', Above w.heap.size w' w'' → MsgIs w'' cs m Aq Aa Au Ae cq ca cu ce
def optC : List Value := rrC nilS nilS nilS optR
theorem optIs (w : World) : RRis w optC optR := ⟨none, 0, none, 0, none, 0, rfl, ⟨rfl, rfl⟩, NmR.nil _, NmR.nil _, NmR.nil _, by simp [optR, RR.zero]⟩
theorem askIs {w : World} {B gq gr : Nat} {A : Option Addr} {c : Nat} {q : Qn} {id : Int} {edns : Bool} (hq : Blk w gq 61 [.slice A q.name.length c, .int .i64 q.ty, .int .i64 q.cl]) (hr : edns = true → Blk w gr 86 optC) (hN : NmR w A c q.name) :
    MsgIs w (msgC (askH id) (.slice (some ⟨gq, 0, none⟩) 1 1) nilS nilS (if edns then .slice (some ⟨gr, 0, none⟩) 1 1 else nilS)) (askM q id edns) (some ⟨gq, 0, none⟩) none none (if edns then some ⟨gr, 0, none⟩ else none) 1 0 0 (if edns then 1 else 0) := by
  refine ⟨?_, fun _ => ⟨gq, 0, rfl, hq.lt, fun i hi => ?_⟩, fun h => absurd h (by simp [askM]), fun h => absurd h (by simp [askM]), ?_, by simp [askM], by simp [askM], by simp [askM], ?_⟩
  · cases edns <;> rfl
  · obtain rfl : i = 0 := by simp [askM] at hi; omega
    exact ⟨A, c, hq.range 0 3 (by simp), hN⟩
  · cases edns with
    | false => exact fun h => absurd h (by simp [askM])
    | true =>
      refine fun _ => ⟨gr, 0, rfl, (hr rfl).lt, fun i hi => ?_⟩
      obtain rfl : i = 0 := by simp [askM] at hi; omega
      refine ⟨optC, ?_, optIs w⟩
      have := (hr rfl).range 0 33 (by rw [show optC.length = 33 from rrC_len ⟨rfl, rfl⟩]; omega)
      rw [List.drop_zero, List.take_of_length_le (by rw [show optC.length = 33 from rrC_len ⟨rfl, rfl⟩]; omega)] at this
      exact this
  · cases edns <;> simp [askM]
set_option maxHeartbeats 4000000 in
theorem askMessage_any (A : Option Addr) (c : Nat) (q : Qn) (id : Int) (edns : Bool) (w : World) (hA : NmR w A c q.name) (hn : q.name.length ≤ 100000) :
    Calls Try.prog 47 #[.agg #[.slice A q.name.length c, .int .i64 q.ty, .int .i64 q.cl], .int .i64 id, .bool edns] w (AskRet (askM q id edns) w) := by
  have b0 : Below w.heap.size w ((w.alloc (.cells #[.slice A q.name.length c, .int .i64 q.ty, .int .i64 q.cl] 61)).alloc (.cells #[.int .i64 0, .bool false, .int .i64 0, .bool false, .bool false, .bool false, .bool false, .bool false, .bool false, .int .i64 0, .slice none 0 0, .slice none 0 0, .slice none 0 0, .slice none 0 0] 52)) := ((Below.refl _ _).alloc (Nat.le_refl _) _).alloc (by simp) _
  have B3' : Blk ((w.alloc (.cells #[.slice A q.name.length c, .int .i64 q.ty, .int .i64 q.cl] 61)).alloc (.cells #[.int .i64 0, .bool false, .int .i64 0, .bool false, .bool false, .bool false, .bool false, .bool false, .bool false, .int .i64 0, .slice none 0 0, .slice none 0 0, .slice none 0 0, .slice none 0 0] 52)) w.heap.size 61 [.slice A q.name.length c, .int .i64 q.ty, .int .i64 q.cl] := (Blk.new w 61 [.slice A q.name.length c, .int .i64 q.ty, .int .i64 q.cl]).alloc _
  have B6' : Blk ((w.alloc (.cells #[.slice A q.name.length c, .int .i64 q.ty, .int .i64 q.cl] 61)).alloc (.cells #[.int .i64 0, .bool false, .int .i64 0, .bool false, .bool false, .bool false, .bool false, .bool false, .bool false, .int .i64 0, .slice none 0 0, .slice none 0 0, .slice none 0 0, .slice none 0 0] 52)) (w.heap.size + 1) 52 msgZ := Blk.new' _ _ msgZ _ (by simp)
  have CL := Lib.hid (clone_any A c q.name _ (hA.below b0) hn)
  have hb1 := hA.2.2.1
  have hb2 := hA.2.2.2
  have AI := Lib.hid (fun (w : World) (gq gr : Nat) (A : Option Addr) (c : Nat) => @askIs w 0 gq gr A c q id edns)
  have ON := Lib.hid (fun (w : World) (B : Nat) (A : Option Addr) (c : Nat) (ho : w.ownsRow B 9 1 (.slice A q.name.length c) q.name.length (strs q.name)) => own_nm ho hb1 hb2)
  clear hA hn hb1 hb2
  generalize askM q id edns = M at *
  generalize q.ty = ty at *
  generalize q.cl = cl at *
  generalize q.name = nm at *
  go_enter Try.func47, Try.ntmps47
  go_wp2_with fail
  refine CL.out.mono ?_
  rintro _ w3 ⟨A', c', rfl, ho, k3⟩
  have B3 := B3'.below k3 B3'.lt
  have B6 := B6'.below k3 B6'.lt
  have b3 := below_then b0 b0.size k3
  have hlo : w.heap.size ≤ ((w.alloc (.cells #[.slice A nm.length c, .int .i64 ty, .int .i64 cl] 61)).alloc (.cells #[.int .i64 0, .bool false, .int .i64 0, .bool false, .bool false, .bool false, .bool false, .bool false, .bool false, .int .i64 0, .slice none 0 0, .slice none 0 0, .slice none 0 0, .slice none 0 0] 52)).heap.size := b0.size
  have hsz : w.heap.size + 2 ≤ w3.heap.size := by have := k3.size; simp at this; omega
  generalize ((w.alloc (.cells #[.slice A nm.length c, .int .i64 ty, .int .i64 cl] 61)).alloc (.cells #[.int .i64 0, .bool false, .int .i64 0, .bool false, .bool false, .bool false, .bool false, .bool false, .bool false, .int .i64 0, .slice none 0 0, .slice none 0 0, .slice none 0 0, .slice none 0 0] 52)).heap.size = lo2 at *
  clear CL B3' B6' b0 k3
  go_wp2_with (refine at_op (.store 24 (.tmp 11) (.tmp 10)) rfl ?_; go_must (refine wpList_stC rfl 24 (.tmp 11) (.tmp 10) rfl w.heap.size 0 rfl (.slice A' nm.length c') rfl B3 (by simp) nameInfo1 rfl rfl ?_))
  intro w4 B4 g4 s4
  have B64 := B6.grown g4 (by simp)
  have ho4 := own_blk ho g4 B3 (by decide)
  have b4 := below_grown b3 g4 b3.size (Nat.le_refl _)
  clear B3 B6 ho g4 b3
  cases edns with
  | false =>
    go_wp2_with (first
      | (refine at_op (.load 61 (.tmp 3)) rfl ?_; go_must (refine wpList_ldB rfl 61 (.tmp 3) rfl w.heap.size 0 rfl B4 3 (by simp) _ Try.underlying61 rfl qInfo [.slice A' nm.length c', .int .i64 ty, .int .i64 cl] rfl ?_))
      | (refine at_op (.store 52 (.tmp 6) (.tmp 21)) rfl ?_; go_must (refine wpList_stB rfl 52 (.tmp 6) (.tmp 21) rfl (w.heap.size + 1) 0 rfl (msgC (askH id) (.slice (some ⟨w3.heap.size, 0, none⟩) 1 1) nilS nilS nilS) rfl (Blk.alloc (Blk.alloc B64 _) _) (by rw [msgC_len, show msgZ.length = 14 from rfl]; omega) msgInfo (msgC_one _ rfl rfl rfl rfl) ?_)))
    intro w5 B5 g5 s5
    have Bq : Blk w5 w3.heap.size 61 [.slice A' nm.length c', .int .i64 ty, .int .i64 cl] := by
      refine Blk.grown ((Blk.new' w4 61 [.slice A' nm.length c', .int .i64 ty, .int .i64 cl] _ s4.symm).alloc _) g5 (by simp; omega)
    have kk : ∀ o1 o2, Below w4.heap.size w4 ((w4.alloc o1).alloc o2) := fun o1 o2 => ((Below.refl _ _).alloc (Nat.le_refl _) _).alloc (by simp) _
    have ho5 := own_blk (own_below ho4 (kk _ _)) g5 (Blk.alloc (Blk.alloc B64 _) _) (by decide)
    have b5 := below_grown (below_then b4 b4.size (kk _ _)) g5 (by have := b4.size; simp; omega) (by omega)
    clear kk g5 B4 B64 ho4 b4
    go_wp2_with fail
    refine ret_cell rfl (w.heap.size + 1) rfl B5 _ Try.underlying52 rfl msgInfo rfl ?_
    exact ⟨_, _, _, _, _, _, _, _, _, rfl, b5, fun w'' hA => AI.out w'' w3.heap.size 0 A' c' (hA.blk Bq (by omega)) (fun h => by cases h) (ON.out w'' lo2 A' c' (hA.own hlo ho5))⟩
  | true =>
    go_wp2_with (first
      | (refine at_op (.load 61 (.tmp 3)) rfl ?_; go_must (refine wpList_ldB rfl 61 (.tmp 3) rfl w.heap.size 0 rfl B4 3 (by simp) _ Try.underlying61 rfl qInfo [.slice A' nm.length c', .int .i64 ty, .int .i64 cl] rfl ?_))
      | (refine at_op (.store 52 (.tmp 6) (.tmp 21)) rfl ?_; go_must (refine wpList_stB rfl 52 (.tmp 6) (.tmp 21) rfl (w.heap.size + 1) 0 rfl (msgC (askH id) (.slice (some ⟨w3.heap.size, 0, none⟩) 1 1) nilS nilS (.slice (some ⟨w3.heap.size + 1 + 1, 0, none⟩) 1 1)) rfl (Blk.alloc (Blk.alloc (Blk.alloc B64 _) _) _) (by rw [msgC_len, show msgZ.length = 14 from rfl]; omega) msgInfo (msgC_one _ rfl rfl rfl rfl) ?_)))
    intro w5 B5 g5 s5
    have Bq : Blk w5 w3.heap.size 61 [.slice A' nm.length c', .int .i64 ty, .int .i64 cl] := by
      refine Blk.grown (((Blk.new' w4 61 [.slice A' nm.length c', .int .i64 ty, .int .i64 cl] _ s4.symm).alloc _).alloc _) g5 (by simp; omega)
    have Br : Blk w5 (w3.heap.size + 1 + 1) 86 optC := Blk.grown (Blk.new' _ 86 optC _ (by simp; omega)) g5 (by simp; omega)
    have kk : ∀ o1 o2 o3, Below w4.heap.size w4 (((w4.alloc o1).alloc o2).alloc o3) := fun o1 o2 o3 => (((Below.refl _ _).alloc (Nat.le_refl _) _).alloc (by simp) _).alloc (by simp; omega) _
    have ho5 := own_blk (own_below ho4 (kk _ _ _)) g5 (Blk.alloc (Blk.alloc (Blk.alloc B64 _) _) _) (by decide)
    have b5 := below_grown (below_then b4 b4.size (kk _ _ _)) g5 (by have := b4.size; simp; omega) (by omega)
    clear kk g5 B4 B64 ho4 b4
    go_wp2_with fail
    refine ret_cell rfl (w.heap.size + 1) rfl B5 _ Try.underlying52 rfl msgInfo rfl ?_
    exact ⟨_, _, _, _, _, _, _, _, _, rfl, b5, fun w'' hA => AI.out w'' w3.heap.size (w3.heap.size + 1 + 1) A' c' (hA.blk Bq (by omega)) (fun _ => hA.blk Br (by omega)) (ON.out w'' lo2 A' c' (hA.own hlo ho5))⟩
end Go.Proofs.Ytlmgdogblbigpaa
