/-
  Layer 13 (rdata): has, an SOA; has of any record.
-/
import Derived.Test.YtlmgdogblbigpaaGL
namespace Go.Proofs.Ytlmgdogblbigpaa
open Go.RowKit
set_option maxRecDepth 100000
set_option linter.unusedVariables false
set_option linter.unusedSimpArgs false

set_option maxHeartbeats 4000000 in
theorem has_6 (vn : Value) (At Am : Option Addr) (ct cm : Nat) (r : RR) (hr : r.wf) (hn : vn.oneCell' = true) (w : World) (hT : NmR w At ct r.tg) (hM : NmR w Am cm r.ml) (hk : kindR r.ty r.cl = 6) :
    Calls Try.prog 114 #[.agg (rrC vn (.slice At r.tg.length ct) (.slice Am r.ml.length cm) r).toArray] w (RetB (.tuple #[.agg (rrC vn nilS nilS { r with tg := [], ml := [], nums := [0, 0, 0, 0, 0] }).toArray, .int .i64 (if namesE [r.tg, r.ml] ≠ 0 then namesE [r.tg, r.ml] else if r.nums.all (inB 4294967295) then 0 else 4)]) w) := by
  obtain ⟨vt, hvt⟩ : ∃ v, v = Value.slice At r.tg.length ct := ⟨_, rfl⟩
  have ht : vt.oneCell' = true := by rw [hvt]; rfl
  obtain ⟨vm, hvm⟩ : ∃ v, v = Value.slice Am r.ml.length cm := ⟨_, rfl⟩
  have hm : vm.oneCell' = true := by rw [hvm]; rfl
  rw [← hvt, ← hvm]
  have HVT := Lib.hid hvt
  have HVM := Lib.hid hvm
  clear hvt hvm
  have hl := rrC_len (vn := vn) (vt := vt) (vm := vm) hr
  have L1? := rrC_1 (vn := vn) (vt := vt) (vm := vm) (r := r)
  have L2? := rrC_2 (vn := vn) (vt := vt) (vm := vm) (r := r)
  have L22 := rrC_22 (vn := vn) (vt := vt) (vm := vm) hr
  have L23 := rrC_23 (vn := vn) (vt := vt) (vm := vm) hr
  have LN := Lib.hid (rrC_nums (vn := vn) (vt := vt) (vm := vm) hr)
  have LZ : Hid (((rrC vn vt vm r).set 22 nilS).set 23 nilS = rrC vn nilS nilS r) := Lib.hid (by rw [rrC_setTg hr, rrC_setMl hr])
  have LS := Lib.hid (rrC_setNums (vn := vn) (vt := nilS) (vm := nilS) hr [0, 0, 0, 0, 0] rfl)
  change Hid (_ = rrC vn nilS nilS { r with tg := [], ml := [], nums := [0, 0, 0, 0, 0] }) at LS
  have Lzl := rrC_len (vn := vn) (vt := nilS) (vm := nilS) hr
  have L1c := Lib.hid (rrC_one (r := r) hn ht hm)
  have L4c := Lib.hid (rrC_one (vt := nilS) (vm := nilS) (r := { r with tg := [], ml := [], nums := [0, 0, 0, 0, 0] }) hn rfl rfl)
  have L4l := rrC_len (vn := vn) (vt := nilS) (vm := nilS) (r := { r with tg := [], ml := [], nums := [0, 0, 0, 0, 0] }) ⟨hr.1, rfl⟩
  have K := Lib.hid (fun w => kindOf_any r.ty r.cl w)
  rw [hk] at K
  have AN := Lib.hid (fun w A h => rnames_any A 2 [r.tg, r.ml] w h (by simp))
  have WI := Lib.hid (fun w A h => rwithin_any 4294967295 A 5 r.nums w h (by rw [hr.2]; decide))
  have hn5 := hr.2
  generalize rrC vn nilS nilS { r with tg := [], ml := [], nums := [0, 0, 0, 0, 0] } = L4 at *
  generalize rrC vn nilS nilS r = Lz at *
  generalize rrC vn vt vm r = L at *
  generalize namesE [r.tg, r.ml] = e at *
  generalize hB3 : r.nums.all (inB 4294967295) = b3 at *
  clear hB3
  generalize r.nums = nums at *
  generalize r.ty = ty at *
  generalize r.cl = cl at *
  clear hk
  generalize hres : (if e ≠ 0 then e else if b3 = true then 0 else 4) = res
  have hres' := Lib.hid hres
  clear hres
  have B0 := Blk.new w 86 L
  go_enter Try.func114, Try.ntmps114
  go_wp2_with (first
    | (refine at_op (.load 86 (.tmp 1)) rfl ?_; go_must (refine wpList_ldB rfl 86 (.tmp 1) rfl w.heap.size 0 rfl (Blk.alloc (Blk.new w 86 L) _) 33 (by omega) _ Try.underlying86 rfl rrInfo L (by rw [List.drop_zero, List.take_of_length_le (by omega)]) ?_))
    | (refine at_op (.store 86 (.tmp 4) (.tmp 6)) rfl ?_; go_must (refine wpList_stB rfl 86 (.tmp 4) (.tmp 6) rfl (w.heap.size + 1 + 1) 0 rfl L rfl (Blk.new' _ _ rrZ _ (by simp)) (by rw [rrZ_len]; omega) (by rw [hl]; exact rrInfo) L1c.out ?_)))
  intro w3 hb3 hg3 hs3
  have B1 : Blk w3 w.heap.size 86 L := ((B0.alloc _).alloc _).grown hg3 (by simp; omega)
  have B2 : Blk w3 (w.heap.size + 1) 86 rrZ := ((Blk.new' _ 86 rrZ _ (by simp)).alloc _).grown hg3 (by simp)
  have B4 : Blk w3 (w.heap.size + 1 + 1) 86 L := by rw [List.drop_of_length_le (by rw [rrZ_len]; omega), List.append_nil] at hb3; exact hb3
  have HB : Below w.heap.size w w3 := below_grown ((((Below.refl _ _).alloc (Nat.le_refl _) _).alloc (by simp) _).alloc (by simp; omega) _) hg3 (by simp; omega) (by omega)
  clear hb3 hg3 B0
  have u1 := B1.cell_ 1 L1?
  have u2 := B1.cell_ 2 L2?
  clear L1? L2?
  go_wp2_with fail
  refine (K.out _).mono ?_
  rintro _ w4 ⟨rfl, rfl⟩
  clear K u1 u2
  have u22 := B4.cell_ 22 L22
  have u23 := B4.cell_ 23 L23
  have f22 := B4.frozen 22
  have f23 := B4.frozen 23
  have B4s := rrS (B4.set 22 nilS) LZ.out
  go_wp2_with (refine at_op (.store 84 (.tmp 63) (.tmp 60)) rfl ?_; go_must (refine wpList_stB rfl 84 (.tmp 63) (.tmp 60) rfl (w.heap.size + 1 + 1) 27 rfl (ints64 [0, 0, 0, 0, 0]) rfl B4s (by rw [Lzl]; decide) numsInfo (by intro v hv; obtain ⟨b, _, rfl⟩ := List.mem_map.1 hv; rfl) ?_))
  intro w5 hb5 hg5 hs5
  have hne : w.heap.size ≠ w.heap.size + 1 + 1 := by omega
  have hne2 : w.heap.size + 1 ≠ w.heap.size + 1 + 1 := by omega
  have B1s := ((B1.far (p := ⟨w.heap.size + 1 + 1, 22, none⟩) hne nilS).far (p := ⟨w.heap.size + 1 + 1, 23, none⟩) hne nilS).grown hg5 (by simpa using hne)
  have B2s := ((B2.far (p := ⟨w.heap.size + 1 + 1, 22, none⟩) hne2 nilS).far (p := ⟨w.heap.size + 1 + 1, 23, none⟩) hne2 nilS).grown hg5 (by simp)
  have HB0 := ((HB.setCell (p := ⟨w.heap.size + 1 + 1, 22, none⟩) (by simp; omega) nilS).setCell (p := ⟨w.heap.size + 1 + 1, 23, none⟩) (by simp; omega) nilS)
  have HBs := below_grown HB0 hg5 HB0.size (by omega)
  have B4z : Blk w5 (w.heap.size + 1 + 1) 86 L4 := by rw [← LS.out, List.append_assoc]; exact hb5
  clear B1 B2 B4 HB f22 f23 B4s HB0 hg5 hb5 LS LZ hs3 Lzl
  have v22 := B1s.cell_ 22 L22
  have v23 := B1s.cell_ 23 L23
  clear L22 L23
  have e1 := HVT.out
  have e2 := HVM.out
  clear HVT HVM
  subst e1
  subst e2
  go_wp2_with fail
  refine (AN.out _ _ (NmsR.new2 (hT.below HBs) (hM.below HBs) _ hs5.symm 24)).mono ?_
  rintro _ w8 ⟨rfl, rfl⟩
  clear AN v22 v23
  have B1 := B1s.alloc (.cells #[.slice At r.tg.length ct, .slice Am r.ml.length cm] 24)
  have B2 := B2s.alloc (.cells #[.slice At r.tg.length ct, .slice Am r.ml.length cm] 24)
  have B4 := B4z.alloc (.cells #[.slice At r.tg.length ct, .slice Am r.ml.length cm] 24)
  have HB := HBs.alloc HBs.size (.cells #[.slice At r.tg.length ct, .slice Am r.ml.length cm] 24)
  have hs4 : (w5.alloc (.cells #[.slice At r.tg.length ct, .slice Am r.ml.length cm] 24)).heap.size = w.heap.size + 1 + 1 + 1 + 1 := by simpa using hs5
  generalize w5.alloc (.cells #[.slice At r.tg.length ct, .slice Am r.ml.length cm] 24) = w4 at *
  clear B1s B2s B4z HBs hs5
  by_cases he : e = 0
  · subst he
    have hr0 := hres'.out
    rw [if_neg (by simp)] at hr0
    have HW := WI.out w4 _ (IntsR.at B1 27 (by rw [hn5]; exact LN.out))
    rw [hn5] at HW
    clear WI hres'
    go_wp2_with fail
    refine HW.mono ?_
    rintro _ w8 ⟨rfl, rfl⟩
    clear HW
    cases b3 with
    | true =>
      have hr1 : (0 : Int) = res := by simpa using hr0
      subst hr1
      clear hr0
      go_wp2_with (first
        | (refine at_op (.load 86 (.tmp 4)) rfl ?_; go_must (refine wpList_ldB rfl 86 (.tmp 4) rfl (w.heap.size + 1 + 1) 0 rfl B4 33 (by omega) _ Try.underlying86 rfl rrInfo L4 (by rw [List.drop_zero, List.take_of_length_le (by omega)]) ?_))
        | (refine at_op (.store 86 (.tmp 2) (.tmp 79)) rfl ?_; go_must (refine wpList_stB rfl 86 (.tmp 2) (.tmp 79) rfl (w.heap.size + 1) 0 rfl L4 rfl B2 (by rw [rrZ_len]; omega) (by rw [L4l]; exact rrInfo) L4c.out ?_)))
      intro w6 hb6 hg6 hs6
      rw [List.drop_of_length_le (by rw [rrZ_len]; omega), List.append_nil] at hb6
      have HB6 : Below w.heap.size w w6 := below_grown HB hg6 HB.size (by omega)
      clear hg6
      go_wp2_with fail
      refine ret_cell_tmp rfl (w.heap.size + 1) rfl hb6 _ Try.underlying86 rfl (by rw [L4l]; exact rrInfo) rfl _ rfl ?_
      exact RetB.mk rfl HB6
    | false =>
      have hr1 : (4 : Int) = res := by simpa using hr0
      subst hr1
      clear hr0
      go_wp2_with (first
        | (refine at_op (.load 86 (.tmp 4)) rfl ?_; go_must (refine wpList_ldB rfl 86 (.tmp 4) rfl (w.heap.size + 1 + 1) 0 rfl B4 33 (by omega) _ Try.underlying86 rfl rrInfo L4 (by rw [List.drop_zero, List.take_of_length_le (by omega)]) ?_))
        | (refine at_op (.store 86 (.tmp 2) (.tmp 78)) rfl ?_; go_must (refine wpList_stB rfl 86 (.tmp 2) (.tmp 78) rfl (w.heap.size + 1) 0 rfl L4 rfl B2 (by rw [rrZ_len]; omega) (by rw [L4l]; exact rrInfo) L4c.out ?_)))
      intro w6 hb6 hg6 hs6
      rw [List.drop_of_length_le (by rw [rrZ_len]; omega), List.append_nil] at hb6
      have HB6 : Below w.heap.size w w6 := below_grown HB hg6 HB.size (by omega)
      clear hg6
      go_wp2_with fail
      refine ret_cell_tmp rfl (w.heap.size + 1) rfl hb6 _ Try.underlying86 rfl (by rw [L4l]; exact rrInfo) rfl _ rfl ?_
      exact RetB.mk rfl HB6
  · have hr1 : e = res := by rw [← hres'.out, if_pos he]
    subst hr1
    have he' : (e != 0) = true := by simpa using he
    clear hres' WI he
    go_wp2_with (first
      | (refine at_op (.load 86 (.tmp 4)) rfl ?_; go_must (refine wpList_ldB rfl 86 (.tmp 4) rfl (w.heap.size + 1 + 1) 0 rfl B4 33 (by omega) _ Try.underlying86 rfl rrInfo L4 (by rw [List.drop_zero, List.take_of_length_le (by omega)]) ?_))
      | (refine at_op (.store 86 (.tmp 2) (.tmp 72)) rfl ?_; go_must (refine wpList_stB rfl 86 (.tmp 2) (.tmp 72) rfl (w.heap.size + 1) 0 rfl L4 rfl B2 (by rw [rrZ_len]; omega) (by rw [L4l]; exact rrInfo) L4c.out ?_)))
    intro w6 hb6 hg6 hs6
    rw [List.drop_of_length_le (by rw [rrZ_len]; omega), List.append_nil] at hb6
    have HB6 : Below w.heap.size w w6 := below_grown HB hg6 HB.size (by omega)
    clear hg6
    go_wp2_with fail
    refine ret_cell_tmp rfl (w.heap.size + 1) rfl hb6 _ Try.underlying86 rfl (by rw [L4l]; exact rrInfo) rfl _ rfl ?_
    exact RetB.mk rfl HB6
/-- What has tells. -/
def HasRet (r : RR) (w : World) : Ending → World → Prop := fun e w' => ∃ cs, e = .returned (.tuple #[.agg cs.toArray, .int .i64 (hasE r)]) ∧ RRis w' cs (clearR r) ∧ Below w.heap.size w w'
theorem NmR.nil (w : World) : NmR w none 0 [] := ⟨fun h => absurd h (by simp), by simp, by simp, by simp⟩
theorem kindR_cases (ty cl : Int) : kindR ty cl = 1 ∨ kindR ty cl = 28 ∨ (kindR ty cl = 5 ∨ kindR ty cl = 12) ∨ kindR ty cl = 33 ∨ kindR ty cl = 6 ∨ kindR ty cl = 0 := by
  unfold kindR
  by_cases h : cl = 1 ∧ (ty = 1 ∨ ty = 28 ∨ ty = 5 ∨ ty = 12 ∨ ty = 33 ∨ ty = 6)
  · rw [if_pos h]; obtain ⟨_, h | h | h | h | h | h⟩ := h <;> simp [h]
  · rw [if_neg h]; simp
theorem has_any (cs : List Value) (r : RR) (w : World) (h : RRis w cs r) : Calls Try.prog 114 #[.agg cs.toArray] w (HasRet r w) := by
  obtain ⟨An, cn, At, ct, Am, cm, rfl, hr, hN, hT, hM, hraw⟩ := h
  rcases kindR_cases r.ty r.cl with hk | hk | hk | hk | hk | hk
  · refine (has_1 _ _ _ r hr rfl rfl rfl w hk).mono ?_
    rintro _ w' ⟨rfl, hB⟩
    refine ⟨_, by rw [hasE, if_pos hk]; rfl, ?_, hB⟩
    rw [clearR, if_pos (.inl hk)]
    exact ⟨An, cn, At, ct, Am, cm, rfl, ⟨rfl, hr.2⟩, hN.below hB, hT.below hB, hM.below hB, hraw⟩
  · refine (has_28 _ _ _ r hr rfl rfl rfl w hk).mono ?_
    rintro _ w' ⟨rfl, hB⟩
    refine ⟨_, by rw [hasE, if_neg (by omega), if_pos hk]; rfl, ?_, hB⟩
    rw [clearR, if_pos (.inr hk)]
    exact ⟨An, cn, At, ct, Am, cm, rfl, ⟨rfl, hr.2⟩, hN.below hB, hT.below hB, hM.below hB, hraw⟩
  · refine (has_5 _ _ At ct r hr rfl rfl w hT hk).mono ?_
    rintro _ w' ⟨rfl, hB⟩
    refine ⟨_, by rw [hasE, if_neg (by omega), if_neg (by omega), if_pos hk], ?_, hB⟩
    rw [clearR, if_neg (by omega), if_pos hk]
    exact ⟨An, cn, none, 0, Am, cm, rfl, hr, hN.below hB, NmR.nil _, hM.below hB, hraw⟩
  · refine (has_33 _ _ At ct r hr rfl rfl w hT hk).mono ?_
    rintro _ w' ⟨rfl, hB⟩
    have e : (if [r.pri, r.we, r.po].all (inB 65535) = true then checkN r.tg else 4) = hasE r := by unfold hasE; rw [hk]; rfl
    refine ⟨_, by rw [e], ?_, hB⟩
    rw [clearR, if_neg (by omega), if_neg (by omega), if_pos hk]
    exact ⟨An, cn, none, 0, Am, cm, rfl, hr, hN.below hB, NmR.nil _, hM.below hB, hraw⟩
  · refine (has_6 _ At Am ct cm r hr rfl w hT hM hk).mono ?_
    rintro _ w' ⟨rfl, hB⟩
    have e : (if namesE [r.tg, r.ml] ≠ 0 then namesE [r.tg, r.ml] else if r.nums.all (inB 4294967295) = true then 0 else 4) = hasE r := by
      have e0 : hasE r = (if checkN r.tg ≠ 0 then checkN r.tg else if checkN r.ml ≠ 0 then checkN r.ml else if r.nums.all (inB 4294967295) then 0 else 4) := by unfold hasE; rw [hk]; rfl
      rw [e0]
      simp only [namesE]
      by_cases h1 : checkN r.tg = 0
      · by_cases h2 : checkN r.ml = 0 <;> simp [h1, h2]
      · simp [h1]
    refine ⟨_, by rw [e], ?_, hB⟩
    rw [clearR, if_neg (by omega), if_neg (by omega), if_neg (by omega), if_pos hk]
    exact ⟨An, cn, none, 0, none, 0, rfl, ⟨hr.1, rfl⟩, hN.below hB, NmR.nil _, NmR.nil _, hraw⟩
  · refine (has_0 _ _ _ r hr rfl rfl rfl w hraw hk).mono ?_
    rintro _ w' ⟨rfl, hB⟩
    have e : (if 65535 < r.raw.length then (3 : Int) else 0) = hasE r := by unfold hasE; rw [hk]; rfl
    refine ⟨_, by rw [e], ?_, hB⟩
    rw [clearR, if_neg (by omega), if_neg (by omega), if_neg (by omega), if_neg (by omega)]
    exact ⟨An, cn, At, ct, Am, cm, rfl, hr, hN.below hB, hT.below hB, hM.below hB, by simp⟩
end Go.Proofs.Ytlmgdogblbigpaa
/-
  Layer 13 (rdata): Check.
-/
namespace Go.Proofs.Ytlmgdogblbigpaa
open Go.RowKit
set_option maxRecDepth 100000
set_option linter.unusedVariables false
set_option linter.unusedSimpArgs false

/-- '==' with no address. -/
theorem run_eqA0 (a : Adr) (ha : a.ip.length = 16) (w : World) : (Op.equalIn 10000 59 (.agg a.cells.toArray) (.agg #[.int .i64 0, .int .u8 0, .int .u8 0, .int .u8 0, .int .u8 0, .int .u8 0, .int .u8 0, .int .u8 0, .int .u8 0, .int .u8 0, .int .u8 0, .int .u8 0, .int .u8 0, .int .u8 0, .int .u8 0, .int .u8 0, .int .u8 0, .int .i64 0])).run Try.prog w = .ok (decide (a = Adr.zero)) w :=
  run_eqA a Adr.zero ha rfl w
/-- '==' with five zeros. -/
theorem run_eqN0 (l : List Int) (hl : l.length = 5) (w : World) : (Op.equalIn 10000 84 (.agg (ints64 l).toArray) (.agg #[.int .i64 0, .int .i64 0, .int .i64 0, .int .i64 0, .int .i64 0])).run Try.prog w = .ok (l == [0, 0, 0, 0, 0]) w :=
  run_equalIn_ints w 9998 84 3 5 .i64 Try.underlying84 Try.underlying3 size_int l [0, 0, 0, 0, 0] hl rfl
theorem ne0_dec (n : Int) : (n != 0) = !decide (n = 0) := by by_cases h : n = 0 <;> simp [h]
theorem wpList_ldBg {P : Program} {ops : Array Oper} {rest : List Oper} {op : Oper} {a : Act} {w : World} {Q : Exit → Act → World → Prop} (hw : Region.wanted op (yielded ops a.tmps) = true) (ty : TypeId) (x : Operand) (ho : op.op = .load ty x)
    (g o : Nat) (hx : a.eval x = .pointer (some ⟨g, o, none⟩)) {t : TypeId} {L : List Value} (hb : Blk w g t L) (n : Nat) (hn : o + n ≤ L.length) (d : TypeDesc)
    (hu : P.underlying ty = some d) (hd : d.isRow = true) (hi : (P.info? ty).map (·.size) = some n) (sub : List Value) (hsub : (L.drop o).take n = sub)
    (h : wpList P ops Q rest (a.put op.dst (.agg sub.toArray)) w) : wpList P ops Q (op :: rest) a w := by
  have hl : sub.length = n := by rw [← hsub]; simp; omega
  refine wpList_step fun K hK => ?_
  rw [if_pos hw]
  exact wp_load_mid ty x ho g o hx sub d (hsub ▸ hb.range o n hn) hu hd (by rw [hl]; exact hi) (hK _ _ h)
set_option maxHeartbeats 4000000 in
theorem rcheck_any (cs : List Value) (r : RR) (w : World) (h : RRis w cs r) : Calls Try.prog 77 #[.agg cs.toArray] w (RetB (.int .i64 (checkR r)) w) := by
  have hh := h
  obtain ⟨An, cn, At, ct, Am, cm, hcs, hr, hN, hT, hM, hraw⟩ := h
  have hl : cs.length = 33 := by rw [hcs]; exact rrC_len hr
  have L0 : cs[0]? = some (.slice An r.name.length cn) := by rw [hcs]; rfl
  have L1 : cs[1]? = some (.int .i64 r.ty) := by rw [hcs]; rfl
  have L2 : cs[2]? = some (.int .i64 r.cl) := by rw [hcs]; rfl
  have L3 : cs[3]? = some (.int .i64 r.ttl) := by rw [hcs]; rfl
  clear hcs
  have hB0 : Below w.heap.size w (w.alloc (.cells cs.toArray 86)) := (Below.refl _ _).alloc (Nat.le_refl _) _
  have hb := Blk.new w 86 cs
  have HH := Lib.hid (fun w' (b : Below w.heap.size w w') => has_any cs r w' (hh.below b))
  have CN := Lib.hid (fun w' (b : Below w.heap.size w w') => dcheck_any An cn r.name w' (hN.below b).1 (by have := hN.2.2.1; omega))
  have W1 := Lib.hid (fun w A h => rwithin_any 65535 A 2 [r.ty, r.cl] w h (by simp))
  have W2 := Lib.hid (fun w A h => rwithin_any 4294967295 A 1 [r.ttl] w h (by simp))
  have HE : Hid (checkR r = _) := Lib.hid (by unfold checkR; rfl)
  generalize checkR r = res at *
  generalize r.ty = ty at *
  generalize r.cl = cl at *
  generalize r.ttl = ttl at *
  generalize checkN r.name = e0 at *
  generalize [ty, cl].all (inB 65535) = b1 at *
  have w2e : [ttl].all (inB 4294967295) = inB 4294967295 ttl := by simp
  rw [w2e] at W2
  clear w2e
  generalize inB 4294967295 ttl = b2 at *
  have u0 := hb.cell_ 0 L0
  have u1 := hb.cell_ 1 L1
  have u2 := hb.cell_ 2 L2
  have u3 := hb.cell_ 3 L3
  clear L0 L1 L2 hN hT hM hraw
  go_enter Try.func77, Try.ntmps77
  go_wp2_with fail
  refine (CN.out _ hB0).mono ?_
  rintro _ w1 ⟨rfl, rfl⟩
  clear CN
  by_cases h0 : e0 = 0
  case neg =>
    have hr0 := HE.out
    rw [if_pos h0] at hr0
    subst hr0
    have h0' : (res != 0) = true := by simpa using h0
    clear HE h0
    go_wp2_with fail
    go_ret
    exact RetB.mk rfl hB0
  subst h0
  have HE1 := Lib.hid (HE.out.trans (if_neg (by simp)))
  clear HE
  generalize hw1 : w.alloc (.cells cs.toArray 86) = w1 at *
  have hs1 : w1.heap.size = w.heap.size + 1 := by rw [← hw1]; simp
  clear hw1
  go_wp2_with fail
  refine (W1.out _ _ (IntsR.new [ty, cl] _ hs1.symm 3)).mono ?_
  rintro _ w2 ⟨rfl, rfl⟩
  clear W1
  have hB1 := hB0.alloc hB0.size (.cells (ints64 [ty, cl]).toArray 3)
  have hb1 := hb.alloc (.cells (ints64 [ty, cl]).toArray 3)
  have hs2 : (w1.alloc (.cells (ints64 [ty, cl]).toArray 3)).heap.size = w.heap.size + 1 + 1 := by simp [hs1]
  generalize w1.alloc (.cells (ints64 [ty, cl]).toArray 3) = w2 at *
  clear hB0 hb hs1
  cases b1 with
  | false =>
    have hr0 := HE1.out
    rw [if_pos (.inl (by simp))] at hr0
    subst hr0
    clear HE1
    go_wp2_with fail
    go_ret
    exact RetB.mk rfl hB1
  | true =>
  have u3 := hb1.cell_ 3 L3
  clear L3
  go_wp2_with fail
  refine (W2.out _ _ (IntsR.new [ttl] _ hs2.symm 3)).mono ?_
  rintro _ w3 ⟨rfl, rfl⟩
  clear W2
  have hB2 := hB1.alloc hB1.size (.cells (ints64 [ttl]).toArray 3)
  have hb2 := hb1.alloc (.cells (ints64 [ttl]).toArray 3)
  have hs3 : (w2.alloc (.cells (ints64 [ttl]).toArray 3)).heap.size = w.heap.size + 1 + 1 + 1 := by simp [hs2]
  generalize w2.alloc (.cells (ints64 [ttl]).toArray 3) = w3 at *
  clear hB1 hb1 hs2 u3
  cases b2 with
  | false =>
    have hr0 := HE1.out
    rw [if_pos (.inr (by simp))] at hr0
    subst hr0
    clear HE1
    go_wp2_with fail
    go_ret
    exact RetB.mk rfl hB2
  | true =>
  have HE2 := Lib.hid (HE1.out.trans (if_neg (by simp)))
  clear HE1
  go_wp2_with (refine at_op (.load 86 (.tmp 1)) rfl ?_; go_must (refine wpList_ldB rfl 86 (.tmp 1) rfl w.heap.size 0 rfl hb2 33 (by omega) _ Try.underlying86 rfl rrInfo cs (by rw [List.drop_zero, List.take_of_length_le (by omega)]) ?_))
  go_wp2_with fail
  refine (HH.out _ hB2).mono ?_
  rintro _ w4 ⟨cs4, rfl, hR4, hB4'⟩
  have hB4 := below_then hB2 hB2.size hB4'
  clear HH hB4' hb2 hB2 hs3 hl hh
  obtain ⟨An4, cn4, At4, ct4, Am4, cm4, hcs4, hr4, hN4, hT4, hM4, hraw4⟩ := hR4
  generalize clearR r = r4 at *
  have hl4 : cs4.length = 33 := by rw [hcs4]; exact rrC_len hr4
  have M22 : cs4[22]? = some (.slice At4 r4.tg.length ct4) := by rw [hcs4]; exact rrC_22 hr4
  have M23 : cs4[23]? = some (.slice Am4 r4.ml.length cm4) := by rw [hcs4]; exact rrC_23 hr4
  have M24 : cs4[24]? = some (.int .i64 r4.pri) := by rw [hcs4]; exact rrC_24 hr4
  have M25 : cs4[25]? = some (.int .i64 r4.we) := by rw [hcs4]; exact rrC_25 hr4
  have M26 : cs4[26]? = some (.int .i64 r4.po) := by rw [hcs4]; exact rrC_26 hr4
  have M32 : cs4[32]? = some (.string (bs r4.raw)) := by rw [hcs4]; exact rrC_32 hr4
  have LA : Hid ((cs4.drop 4).take 18 = r4.ad.cells) := Lib.hid (by rw [hcs4]; exact rrC_ad hr4)
  have LN : Hid ((cs4.drop 27).take 5 = ints64 r4.nums) := Lib.hid (by rw [hcs4]; exact rrC_nums hr4)
  have L1c : Hid (∀ v ∈ cs4, v.oneCell' = true) := Lib.hid (by rw [hcs4]; exact rrC_one rfl rfl rfl)
  clear hcs4
  have EA := run_eqA0 r4.ad hr4.1
  have EN := run_eqN0 r4.nums hr4.2
  have tb := hT4.2.2.1
  have mb := hM4.2.2.1
  clear hN4 hT4 hM4
  have HE3 : Hid (res = if hasE r ≠ 0 then hasE r else if bareB r4 then 0 else 5) := HE2
  clear HE2
  generalize hasE r = e1 at *
  go_wp2_with (refine at_op (.store 86 (.tmp 4) (.tmp 29)) rfl ?_; go_must (refine wpList_stB rfl 86 (.tmp 4) (.tmp 29) rfl w4.heap.size 0 rfl cs4 rfl (Blk.new' _ _ rrZ _ (by simp)) (by rw [rrZ_len]; omega) (by rw [hl4]; exact rrInfo) L1c.out ?_))
  intro w5 hb5 hg5 hs5
  rw [List.drop_of_length_le (by rw [rrZ_len]; omega), List.append_nil] at hb5
  have B4 := hb5
  have hB5 : Below w.heap.size w w5 := below_grown (hB4.alloc hB4.size _) hg5 (by have := hB4.size; simp; omega) hB4.size
  clear hb5 hg5 hB4 L1c hr hs5
  by_cases h1 : e1 = 0
  case neg =>
    have hr0 := HE3.out
    rw [if_pos h1] at hr0
    subst hr0
    have h0' : (res != 0) = true := by simpa using h1
    clear HE3 h1 EA EN M22 M23 M24 M25 M26 M32
    go_wp2_with fail
    go_ret
    exact RetB.mk rfl hB5
  subst h1
  have HE4 := HE3.out.trans (if_neg (by simp))
  clear HE3
  have c22 := B4.cell_ 22 M22
  have c23 := B4.cell_ 23 M23
  have c24 := B4.cell_ 24 M24
  have c25 := B4.cell_ 25 M25
  have c26 := B4.cell_ 26 M26
  have c32 := B4.cell_ 32 M32
  clear M22 M23 M24 M25 M26 M32
  have q1 : decide (r4.tg = []) = true ↔ r4.tg.length = 0 := by simp
  have q2 : decide (r4.ml = []) = true ↔ r4.ml.length = 0 := by simp
  have q3 := ne0_dec r4.pri
  have q4 := ne0_dec r4.we
  have q5 := ne0_dec r4.po
  have q6 : (r4.nums == [0, 0, 0, 0, 0]) = decide (r4.nums = [0, 0, 0, 0, 0]) := by by_cases h : r4.nums = [0, 0, 0, 0, 0] <;> simp [h]
  have q7 : decide (r4.raw = []) = true ↔ r4.raw = [] := by simp
  rw [q6] at EN
  clear q6
  unfold bareB at HE4
  generalize decide (r4.ad = Adr.zero) = bA at *
  generalize decide (r4.tg = []) = bT at *
  generalize decide (r4.ml = []) = bM at *
  generalize decide (r4.pri = 0) = bP at *
  generalize decide (r4.we = 0) = bW at *
  generalize decide (r4.po = 0) = bO at *
  generalize decide (r4.nums = [0, 0, 0, 0, 0]) = bN at *
  generalize decide (r4.raw = []) = bR at *
  generalize r4.ad.cells = LAd at *
  generalize ints64 r4.nums = LNs at *
  generalize r4.pri = pri at *
  generalize r4.we = we at *
  generalize r4.po = po at *
  generalize r4.tg.length = n1 at *
  generalize r4.ml.length = n2 at *
  generalize r4.raw = raw at *
  have HE5 := Lib.hid HE4
  clear HE4 hr4
  cases bA with
  | false =>
    have hr0 : res = 5 := by simpa using HE5.out
    subst hr0
    clear HE5 q1 q2 q3 q4 q5 q7
    go_wp2_with (first
      | (refine at_op (.load 59 (.tmp 34)) rfl ?_; go_must (refine wpList_ldB rfl 59 (.tmp 34) rfl w4.heap.size 4 rfl B4 18 (by omega) _ Try.underlying59 rfl adrInfo LAd LA.out ?_))
      | (refine at_op (.load 84 (.tmp 66)) rfl ?_; refine wpList_ldBg (by kernel_rfl) 84 (.tmp 66) rfl w4.heap.size 27 rfl B4 5 (by omega) _ Try.underlying84 rfl numsInfo LNs LN.out ?_))
    go_ret
    exact RetB.mk rfl hB5
  | true =>
  cases bT with
  | false =>
    have hr0 : res = 5 := by simpa using HE5.out
    subst hr0
    have p1 : 0 < n1 := by simp at q1; omega
    have p2 : (0 : Int) < n1 := by omega
    clear HE5 q1 q2 q3 q4 q5 q7
    go_wp2_with (first
      | (refine at_op (.load 59 (.tmp 34)) rfl ?_; go_must (refine wpList_ldB rfl 59 (.tmp 34) rfl w4.heap.size 4 rfl B4 18 (by omega) _ Try.underlying59 rfl adrInfo LAd LA.out ?_))
      | (refine at_op (.load 84 (.tmp 66)) rfl ?_; refine wpList_ldBg (by kernel_rfl) 84 (.tmp 66) rfl w4.heap.size 27 rfl B4 5 (by omega) _ Try.underlying84 rfl numsInfo LNs LN.out ?_))
    go_ret
    exact RetB.mk rfl hB5
  | true =>
  obtain rfl := q1.1 rfl
  clear q1
  cases bM with
  | false =>
    have hr0 : res = 5 := by simpa using HE5.out
    subst hr0
    have p1 : 0 < n2 := by simp at q2; omega
    have p2 : (0 : Int) < n2 := by omega
    clear HE5 q2 q3 q4 q5 q7
    go_wp2_with (first
      | (refine at_op (.load 59 (.tmp 34)) rfl ?_; go_must (refine wpList_ldB rfl 59 (.tmp 34) rfl w4.heap.size 4 rfl B4 18 (by omega) _ Try.underlying59 rfl adrInfo LAd LA.out ?_))
      | (refine at_op (.load 84 (.tmp 66)) rfl ?_; refine wpList_ldBg (by kernel_rfl) 84 (.tmp 66) rfl w4.heap.size 27 rfl B4 5 (by omega) _ Try.underlying84 rfl numsInfo LNs LN.out ?_))
    go_ret
    exact RetB.mk rfl hB5
  | true =>
  obtain rfl := q2.1 rfl
  clear q2
  cases bP with
  | false =>
    have hr0 : res = 5 := by simpa using HE5.out
    subst hr0
    simp only [Bool.not_false] at q3
    clear HE5 q4 q5 q7
    go_wp2_with (first
      | (refine at_op (.load 59 (.tmp 34)) rfl ?_; go_must (refine wpList_ldB rfl 59 (.tmp 34) rfl w4.heap.size 4 rfl B4 18 (by omega) _ Try.underlying59 rfl adrInfo LAd LA.out ?_))
      | (refine at_op (.load 84 (.tmp 66)) rfl ?_; refine wpList_ldBg (by kernel_rfl) 84 (.tmp 66) rfl w4.heap.size 27 rfl B4 5 (by omega) _ Try.underlying84 rfl numsInfo LNs LN.out ?_))
    go_ret
    exact RetB.mk rfl hB5
  | true =>
  cases bW with
  | false =>
    have hr0 : res = 5 := by simpa using HE5.out
    subst hr0
    simp only [Bool.not_false, Bool.not_true] at q3 q4
    clear HE5 q5 q7
    go_wp2_with (first
      | (refine at_op (.load 59 (.tmp 34)) rfl ?_; go_must (refine wpList_ldB rfl 59 (.tmp 34) rfl w4.heap.size 4 rfl B4 18 (by omega) _ Try.underlying59 rfl adrInfo LAd LA.out ?_))
      | (refine at_op (.load 84 (.tmp 66)) rfl ?_; refine wpList_ldBg (by kernel_rfl) 84 (.tmp 66) rfl w4.heap.size 27 rfl B4 5 (by omega) _ Try.underlying84 rfl numsInfo LNs LN.out ?_))
    go_ret
    exact RetB.mk rfl hB5
  | true =>
  cases bO with
  | false =>
    have hr0 : res = 5 := by simpa using HE5.out
    subst hr0
    simp only [Bool.not_false, Bool.not_true] at q3 q4 q5
    clear HE5 q7
    go_wp2_with (first
      | (refine at_op (.load 59 (.tmp 34)) rfl ?_; go_must (refine wpList_ldB rfl 59 (.tmp 34) rfl w4.heap.size 4 rfl B4 18 (by omega) _ Try.underlying59 rfl adrInfo LAd LA.out ?_))
      | (refine at_op (.load 84 (.tmp 66)) rfl ?_; refine wpList_ldBg (by kernel_rfl) 84 (.tmp 66) rfl w4.heap.size 27 rfl B4 5 (by omega) _ Try.underlying84 rfl numsInfo LNs LN.out ?_))
    go_ret
    exact RetB.mk rfl hB5
  | true =>
  cases bN with
  | false =>
    have hr0 : res = 5 := by simpa using HE5.out
    subst hr0
    simp only [Bool.not_true] at q3 q4 q5
    clear HE5 q7
    go_wp2_with (first
      | (refine at_op (.load 59 (.tmp 34)) rfl ?_; go_must (refine wpList_ldB rfl 59 (.tmp 34) rfl w4.heap.size 4 rfl B4 18 (by omega) _ Try.underlying59 rfl adrInfo LAd LA.out ?_))
      | (refine at_op (.load 84 (.tmp 66)) rfl ?_; refine wpList_ldBg (by kernel_rfl) 84 (.tmp 66) rfl w4.heap.size 27 rfl B4 5 (by omega) _ Try.underlying84 rfl numsInfo LNs LN.out ?_))
    go_ret
    exact RetB.mk rfl hB5
  | true =>
  cases bR with
  | false =>
    have hr0 : res = 5 := by simpa using HE5.out
    subst hr0
    simp only [Bool.not_true] at q3 q4 q5
    have p1 : raw ≠ [] := by simpa using q7
    have p2 : raw.isEmpty = false := by simpa using p1
    clear HE5 q7
    go_wp2_with (first
      | (refine at_op (.load 59 (.tmp 34)) rfl ?_; go_must (refine wpList_ldB rfl 59 (.tmp 34) rfl w4.heap.size 4 rfl B4 18 (by omega) _ Try.underlying59 rfl adrInfo LAd LA.out ?_))
      | (refine at_op (.load 84 (.tmp 66)) rfl ?_; refine wpList_ldBg (by kernel_rfl) 84 (.tmp 66) rfl w4.heap.size 27 rfl B4 5 (by omega) _ Try.underlying84 rfl numsInfo LNs LN.out ?_))
    go_ret
    exact RetB.mk rfl hB5
  | true =>
    have hr0 : res = 0 := by simpa using HE5.out
    subst hr0
    simp only [Bool.not_true] at q3 q4 q5
    obtain rfl := q7.1 rfl
    clear HE5 q7
    go_wp2_with (first
      | (refine at_op (.load 59 (.tmp 34)) rfl ?_; go_must (refine wpList_ldB rfl 59 (.tmp 34) rfl w4.heap.size 4 rfl B4 18 (by omega) _ Try.underlying59 rfl adrInfo LAd LA.out ?_))
      | (refine at_op (.load 84 (.tmp 66)) rfl ?_; refine wpList_ldBg (by kernel_rfl) 84 (.tmp 66) rfl w4.heap.size 27 rfl B4 5 (by omega) _ Try.underlying84 rfl numsInfo LNs LN.out ?_))
    go_ret
    exact RetB.mk rfl hB5
end Go.Proofs.Ytlmgdogblbigpaa
