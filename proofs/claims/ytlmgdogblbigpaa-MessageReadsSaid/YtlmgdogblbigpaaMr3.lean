/-
  Layer 14 (message): the reader: records.
-/
import Derived.Test.YtlmgdogblbigpaaMr2
import Derived.Great.BuildSlice
namespace Go.Proofs.Ytlmgdogblbigpaa
open Go.RowKit
set_option maxRecDepth 100000
set_option linter.unusedVariables false
set_option linter.unusedSimpArgs false

theorem fold_set (place : Nat) : ∀ (cs : List Value) (k : Nat) (base : List Value), k + cs.length ≤ base.length →
    (cs.zipIdx k).foldl (fun (b : List Value) x => b.set (0 + x.2) x.1) base = base.take k ++ cs ++ base.drop (k + cs.length)
  | [], k, base, h => by simp
  | c :: cs, k, base, h => by
    have hk : k < base.length := by simp at h; omega
    rw [List.zipIdx_cons, List.foldl_cons, Nat.zero_add, fold_set place cs (k + 1) (base.set k c) (by simp at h ⊢; omega)]
    have e1 : (base.set k c).take (k + 1) = base.take k ++ [c] := by
      rw [List.take_succ_eq_append_getElem (by simpa using hk)]
      simp [List.take_set]
      exact List.set_eq_of_length_le (by simp; omega)
    have e2 : (base.set k c).drop (k + 1 + cs.length) = base.drop (k + 1 + cs.length) := List.drop_set_of_lt (by omega)
    rw [e1, e2]
    simp [Nat.add_assoc, Nat.add_comm 1]
theorem fold_arr (cs : List (Value × Nat)) : ∀ (base : List Value), (cs.foldl (fun (b : Array Value) x => b.setIfInBounds (0 + x.2) x.1) base.toArray) = (cs.foldl (fun (b : List Value) x => b.set (0 + x.2) x.1) base).toArray := by
  induction cs with
  | nil => intro base; rfl
  | cons c cs ih => intro base; rw [List.foldl_cons, List.foldl_cons, List.setIfInBounds_toArray, ih]
theorem fill_one (n : Nat) (base : List Value) (cs : List Value) (h1 : cs.length = n) (h2 : base.length = n) : Instr.fill (fun i => some (i * n, n)) base.toArray [(0, .agg cs.toArray)] = some cs.toArray := by
  have hc : (Value.agg cs.toArray).cells = cs.toArray := rfl
  unfold Instr.fill
  simp only [Nat.zero_mul, hc, List.size_toArray, h1, h2]
  rw [if_neg (by simp)]
  unfold Instr.fill
  have e : (cs.toArray.zipIdx.foldl (fun (b : Array Value) x => b.setIfInBounds (0 + x.2) x.1) base.toArray) = cs.toArray := by
    rw [← Array.foldl_toList, Array.toList_zipIdx, List.toList_toArray, fold_arr, fold_set 0 cs 0 base (by omega)]
    rw [List.take_zero, List.nil_append, List.drop_of_length_le (by omega), List.append_nil]
  exact congrArg some e
theorem wpList_bsR {ops : Array Oper} {rest : List Oper} {o : Oper} {a : Act} {w : World} {Q : Exit → Act → World → Prop} (hg : o.guard = none) (x : Operand) (ho : o.op = .buildSlice 50 1 #[(0, x)]) (cs : List Value) (hx : a.eval x = .agg cs.toArray) (hl : cs.length = 33)
    (h : wpList Try.prog ops Q rest (a.put o.dst (.slice (some ⟨w.heap.size, 0, none⟩) 1 1)) (w.alloc (.cells cs.toArray 86))) : wpList Try.prog ops Q (o :: rest) a w := by
  obtain ⟨i, hi, hz, hsize, hby⟩ := info_parts rrInfo3
  refine wpList_buildSlice hg 50 86 1 #[(0, x)] ho cs.toArray i _ Try.underlying50 hi hz (by rw [hsize]; decide) (by rw [hsize]; decide) ?_ h
  rw [hsize]
  have e : ((#[(0, x)] : Array (Nat × Operand)).map fun (i, x) => (i, a.eval x)).toList = [(0, .agg cs.toArray)] := by simp [hx]
  rw [e]
  have := fill_one 33 ((Array.range (1 * 33)).map ((Value.agg rrZ.toArray).cells[· % (Value.agg rrZ.toArray).cells.size]!)).toList cs hl (by simp)
  rw [Array.toArray_toList] at this
  exact this
theorem RRsOwn.app {w1 w2 : World} {B : Nat} {v v' : Value} {l : List RR} {cs : List Value} {r : RR} {css : List (List Value)} (h : Each (RRown w1) css l) (hr : RRown w1 cs r) (hs : Stays w1 w2) (ho : w2.ownsRow B 86 33 v' (l.length + 1) (css.flatten ++ cs)) : RRsOwn w2 B v' (l ++ [r]) := by
  refine ⟨css ++ [cs], ?_, (h.app1 hr).mono (fun _ _ x => x.stays hs)⟩
  simpa using ho
set_option maxHeartbeats 2000000 in
theorem mrecords_any (g : Nat) (m : List UInt8) (a n : Nat) (w : World) (h : RdM w g m a) (hl : m.length ≤ 65535) (ha : a ≤ m.length) (hn : n ≤ 65535) :
    Calls Try.prog 100 #[.pointer (some ⟨g, 0, none⟩), .int .i64 n] w (RdRet (fun w' v l => RRsOwn w' w.heap.size v l ∧ l.length ≤ n) g m w (manyAt (recAt m) n a)) := by
  have hgl : g < w.heap.size := Blk.lt h
  obtain ⟨O, hO⟩ : ∃ O, O = manyAt (recAt m) n a := ⟨_, rfl⟩
  rw [← hO]
  have HO : Hid (behindL [] (manyAt (recAt m) (n - 0) a) = O) := Lib.hid (by rw [behind_nil, hO]; rfl)
  clear hO
  go_enter Try.func100, Try.ntmps100
  go_wp2_with fail
  go_loopw [5, 7] (fun lv iv wr => ∃ (k : Nat) (acc : List RR) (p : Nat), k ≤ n ∧ iv = .int .i64 k ∧ acc.length = k ∧ RRsOwn wr w.heap.size lv acc ∧ RdM wr g m p ∧ p ≤ m.length ∧ w.grownBy wr (some g) ∧ Hid (behindL acc (manyAt (recAt m) (n - k) p) = O)) (fun _ iv _ => n - (intOf iv).toNat)
  case atStart => exact ⟨0, [], a, Nat.zero_le _, rfl, rfl, RRsOwn.nil _ _, h, ha, World.grownBy.refl _ _, HO⟩
  clear HO h ha
  obtain ⟨k, acc, p, hk, rfl, hal, oR, R, lp, G, HO⟩ := hrel
  have HAL := Lib.hid hal
  have hale : acc.length ≤ 65535 := by omega
  clear hal
  have hsz := G.size
  by_cases hlt : k < n
  case pos =>
    have hlt' : (k : Int) < n := by omega
    have e1 : n - k = (n - (k + 1)) + 1 := by omega
    rw [e1] at HO
    have RC := Lib.hid (mrecord_any g m p wr R hl lp)
    obtain ⟨A, c, hv⟩ := oR.form
    subst hv
    go_wp2_with fail
    refine RC.out.mono ?_
    intro e w1 hr
    rcases rd_cases hr with ⟨x, h1, rfl, g1⟩ | ⟨r, p', v, h1, rfl, ⟨cs, rfl, hO'⟩, R1, g1, l1⟩
    · obtain rfl : O = .error x := by rw [← HO.out]; exact many_fail h1
      go_wp2_with fail
      exact ⟨rfl, rfl, grown_next G g1⟩
    have o1 := oR.blk g1 R (by decide) (by decide)
    have G1 := grown_next G g1
    have HO1 : Hid (behindL (acc ++ [r]) (manyAt (recAt m) (n - (k + 1)) p') = O) := Lib.hid (by rw [← many_step h1]; exact HO.out)
    have hcl := hO'.len
    have hc1 := Lib.hid hO'.one
    clear hr RC oR R lp G HO g1 h1 hsz
    have kn : Below w1.heap.size w1 (w1.alloc (.cells cs.toArray 86)) := (Below.refl _ _).alloc (Nat.le_refl _) _
    obtain ⟨css, ow, hE⟩ := o1
    have ow2 := own_below ow kn
    have Bn := Blk.new w1 86 cs
    have hrg : (w1.alloc (.cells cs.toArray 86)).rangeAt w1.heap.size 0 cs := by
      have := Bn.range 0 33 (by omega)
      rwa [List.drop_zero, List.take_of_length_le (by omega)] at this
    have G2 := grown_alloc G1 (.cells cs.toArray 86)
    have hs1 := G1.size
    have R2 := Blk.below R1 kn (Blk.lt R1)
    replace hE := hE.mono (fun _ _ x => x.stays (Stays.below kn))
    replace hO' := hO'.stays (Stays.below kn)
    go_wp2_with (first
      | (refine at_op (.buildSlice 50 1 #[(0, .tmp 11)]) rfl ?_; go_must (refine wpList_bsR rfl (.tmp 11) rfl cs rfl hcl ?_))
      | (at_builtin; go_must (refine wpList_appR _ rfl (.tmp 9) (.tmp 12) rfl w.heap.size _ acc.length css.flatten rfl ow2 (by simp; omega) (some ⟨w1.heap.size, 0, none⟩) 1 1 cs rfl (fun _ => ⟨w1.heap.size, 0, rfl, hrg⟩) (by omega) hc1.out (by omega) (acc.length + 1) rfl ?_)))
    intro A' c' w2 o2 g2
    have S2 := Stays.own ow2 (by decide) g2
    have o3 : RRsOwn w2 w.heap.size (.slice A' (acc.length + 1) c') (acc ++ [r]) := RRsOwn.app (v := .slice none 0 0) hE hO' S2 o2
    have R3 : RdM w2 g m p' := blk_own R2 ow2 (by decide) g2
    have G3 : w.grownBy w2 (some g) := grown_trans G2 g2 (.inr (fun k hk => own_base ow2 k hk))
    clear R1 R2 G1 G2 ow ow2 hE hO' Bn hrg S2 g2 o2 kn hc1 hcl
    go_wp2_with fail
    go_roundw
    case rel => exact ⟨k + 1, acc ++ [r], p', by omega, by go_num, by simp [HAL.out], o3, R3, l1, G3, HO1⟩
    case measure => simp [intOf]; omega
  obtain rfl : k = n := by omega
  have hlt' : ¬ (k : Int) < k := by omega
  obtain rfl : O = .ok (acc, p) := by rw [← HO.out, Nat.sub_self]; exact many_zero
  clear hlt hk HO
  go_wp2_with fail
  go_ret
  exact ⟨_, rfl, ⟨oR, by have := HAL.out; omega⟩, R, G, lp⟩
end Go.Proofs.Ytlmgdogblbigpaa
