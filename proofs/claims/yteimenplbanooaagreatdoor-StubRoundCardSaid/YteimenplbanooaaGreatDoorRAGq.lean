/-
  Layer 13 (rdata): has, an SOA; has of any record.
-/
import Derived.Test.YteimenplbanooaaGreatDoorRAFq
namespace Go.Proofs.YteimenplbanooaaGreatDoor
open _root_.Go.Proofs.Tryz
open Go.RowKit
set_option maxRecDepth 100000
set_option linter.unusedVariables false
set_option linter.unusedSimpArgs false
set_option maxHeartbeats 4000000 in
theorem has_6 (vn : Value) (At Am : Option Addr) (ct cm : Nat) (r : RR) (hr : r.wf) (hn : vn.oneCell' = true) (w : World) (hT : NmR w At ct r.tg) (hM : NmR w Am cm r.ml) (hk : kindR r.ty r.cl = 6) :
  Calls prog 338 #[.agg (rrC vn (.slice At r.tg.length ct) (.slice Am r.ml.length cm) r).toArray] w (RetB (.tuple #[.agg (rrC vn nilS nilS { r with tg := [], ml := [], nums := [0, 0, 0, 0, 0] }).toArray, .int .i64 (if namesE [r.tg, r.ml] ≠ 0 then namesE [r.tg, r.ml] else if r.nums.all (inB 4294967295) then 0 else 4)]) w) := by
 obtain ⟨vt, hvt⟩ : ∃ v, v = Value.slice At r.tg.length ct := ⟨_, rfl⟩
 have ht : vt.oneCell' = true := by rw [hvt]; rfl
 obtain ⟨vm, hvm⟩ : ∃ v, v = Value.slice Am r.ml.length cm := ⟨_, rfl⟩
 have hm : vm.oneCell' = true := by rw [hvm]; rfl
 rw [← hvt, ← hvm]
 have HVT := Hh hvt
 have HVM := Hh hvm
 clear hvt hvm
 have hl := rrC_len (vn := vn) (vt := vt) (vm := vm) hr
 have L1? := rrC_1 (vn := vn) (vt := vt) (vm := vm) (r := r)
 have L2? := rrC_2 (vn := vn) (vt := vt) (vm := vm) (r := r)
 have L22 := rrC_22 (vn := vn) (vt := vt) (vm := vm) hr
 have L23 := rrC_23 (vn := vn) (vt := vt) (vm := vm) hr
 have LN := Hh (rrC_nums (vn := vn) (vt := vt) (vm := vm) hr)
 have LZ : Hid (((rrC vn vt vm r).set 22 nilS).set 23 nilS = rrC vn nilS nilS r) := Hh (by rw [rrC_setTg hr, rrC_setMl hr])
 have LS := Hh (rrC_setNums (vn := vn) (vt := nilS) (vm := nilS) hr [0, 0, 0, 0, 0] rfl)
 change Hid (_ = rrC vn nilS nilS { r with tg := [], ml := [], nums := [0, 0, 0, 0, 0] }) at LS
 have Lzl := rrC_len (vn := vn) (vt := nilS) (vm := nilS) hr
 have L1c := Hh (rrC_one (r := r) hn ht hm)
 have L4c := Hh (rrC_one (vt := nilS) (vm := nilS) (r := { r with tg := [], ml := [], nums := [0, 0, 0, 0, 0] }) hn rfl rfl)
 have L4l := rrC_len (vn := vn) (vt := nilS) (vm := nilS) (r := { r with tg := [], ml := [], nums := [0, 0, 0, 0, 0] }) ⟨hr.1, rfl⟩
 have K := Hh (fun w => kindOf_any r.ty r.cl w)
 rw [hk] at K
 have AN := Hh (fun w A h => rnames_any A 2 [r.tg, r.ml] w h (by simp))
 have WI := Hh (fun w A h => rwithin_any 4294967295 A 5 r.nums w h (by rw [hr.2]; decide))
 have hn5 := hr.2
 generalize rrC vn nilS nilS { r with tg := [], ml := [], nums := [0, 0, 0, 0, 0] } = L4 at *
 generalize rrC vn nilS nilS r = Lz at *
 generalize rrC vn vt vm r = L at *
 generalize namesE [r.tg, r.ml] = e at *
 generalize hB3 : r.nums.all (inB 4294967295) = b3 at *
 clear hB3
 generalize r.nums = nums at *
 generalize r.ty = ty at *
 generalize r.cl = cl at *
 clear hk
 generalize hres : (if e ≠ 0 then e else if b3 = true then 0 else 4) = res
 have hres' := Hh hres
 clear hres
 have B0 := Blk.new w 96 L
 go_enter func338, ntmps338
 go_wp2_with (first
  | (refine at_op (.load 96 (.tmp 1)) rfl ?_; go_must (refine wpList_ldB rfl _ _ rfl w.heap.size 0 rfl (Blk.alloc (Blk.new w 96 L) _) 33 (by omega) _ underlying96 rfl rrInfo L (tk0 (by omega)) ?_))
  | (refine at_op (.store 96 (.tmp 4) (.tmp 6)) rfl ?_; go_must (refine wpList_stB rfl _ _ _ rfl (w.heap.size + 1 + 1) 0 rfl L rfl (Blk.new' _ _ rrZ _ (by simp)) (by rw [rrZ_len]; omega) (by rw [hl]; exact rrInfo) L1c.out ?_)))
 intro w3 hb3 hg3 hs3
 have B1 : Blk w3 w.heap.size 96 L := ((B0.alloc _).alloc _).grown hg3 (by simp; omega)
 have B2 : Blk w3 (w.heap.size + 1) 96 rrZ := ((Blk.new' _ 96 rrZ _ (by simp)).alloc _).grown hg3 (by simp)
 have B4 : Blk w3 (w.heap.size + 1 + 1) 96 L := by rw [List.drop_of_length_le (by rw [rrZ_len]; omega), List.append_nil] at hb3; exact hb3
 have HB : Below w.heap.size w w3 := below_grown ((((Below.refl _ _).alloc (Nat.le_refl _) _).alloc (by simp) _).alloc (by simp; omega) _) hg3 (by simp; omega) (by omega)
 clear hb3 hg3 B0
 have u1 := B1.cell_ 1 L1?
 have u2 := B1.cell_ 2 L2?
 clear L1? L2?
 go_wp2_with fail
 refine (K.out _).mono ?_
 rintro _ w4 ⟨rfl, rfl⟩
 clear K u1 u2
 have u22 := B4.cell_ 22 L22
 have u23 := B4.cell_ 23 L23
 have f22 := B4.frozen 22
 have f23 := B4.frozen 23
 have B4s := rrS (B4.set 22 nilS) LZ.out
 go_wp2_with (refine at_op (.store 94 (.tmp 63) (.tmp 60)) rfl ?_; go_must (refine wpList_stB rfl _ _ _ rfl (w.heap.size + 1 + 1) 27 rfl (ints64 [0, 0, 0, 0, 0]) rfl B4s (by rw [Lzl]; decide) numsInfo (by intro v hv; obtain ⟨b, _, rfl⟩ := List.mem_map.1 hv; rfl) ?_))
 intro w5 hb5 hg5 hs5
 have hne : w.heap.size ≠ w.heap.size + 1 + 1 := by omega
 have hne2 : w.heap.size + 1 ≠ w.heap.size + 1 + 1 := by omega
 have B1s := ((B1.far (p := ⟨w.heap.size + 1 + 1, 22, none⟩) hne nilS).far (p := ⟨w.heap.size + 1 + 1, 23, none⟩) hne nilS).grown hg5 (by simpa using hne)
 have B2s := ((B2.far (p := ⟨w.heap.size + 1 + 1, 22, none⟩) hne2 nilS).far (p := ⟨w.heap.size + 1 + 1, 23, none⟩) hne2 nilS).grown hg5 (by simp)
 have HB0 := ((HB.setCell (p := ⟨w.heap.size + 1 + 1, 22, none⟩) (by simp; omega) nilS).setCell (p := ⟨w.heap.size + 1 + 1, 23, none⟩) (by simp; omega) nilS)
 have HBs := below_grown HB0 hg5 HB0.size (by omega)
 have B4z : Blk w5 (w.heap.size + 1 + 1) 96 L4 := by rw [← LS.out, List.append_assoc]; exact hb5
 clear B1 B2 B4 HB f22 f23 B4s HB0 hg5 hb5 LS LZ hs3 Lzl
 have v22 := B1s.cell_ 22 L22
 have v23 := B1s.cell_ 23 L23
 clear L22 L23
 have e1 := HVT.out
 have e2 := HVM.out
 clear HVT HVM
 subst e1
 subst e2
 go_wp2_with fail
 refine (AN.out _ _ (NmsR.new2 (hT.below HBs) (hM.below HBs) _ hs5.symm 81)).mono ?_
 rintro _ w8 ⟨rfl, rfl⟩
 clear AN v22 v23
 have B1 := B1s.alloc (.cells #[.slice At r.tg.length ct, .slice Am r.ml.length cm] 81)
 have B2 := B2s.alloc (.cells #[.slice At r.tg.length ct, .slice Am r.ml.length cm] 81)
 have B4 := B4z.alloc (.cells #[.slice At r.tg.length ct, .slice Am r.ml.length cm] 81)
 have HB := HBs.alloc HBs.size (.cells #[.slice At r.tg.length ct, .slice Am r.ml.length cm] 81)
 have hs4 : (w5.alloc (.cells #[.slice At r.tg.length ct, .slice Am r.ml.length cm] 81)).heap.size = w.heap.size + 1 + 1 + 1 + 1 := by simpa using hs5
 generalize w5.alloc (.cells #[.slice At r.tg.length ct, .slice Am r.ml.length cm] 81) = w4 at *
 clear B1s B2s B4z HBs hs5
 by_cases he : e = 0
 ·
  subst he
  have hr0 := hres'.out
  rw [if_neg (by simp)] at hr0
  have HW := WI.out w4 _ (IntsR.at B1 27 (by rw [hn5]; exact LN.out))
  rw [hn5] at HW
  clear WI hres'
  go_wp2_with fail
  refine HW.mono ?_
  rintro _ w8 ⟨rfl, rfl⟩
  clear HW
  cases b3 with
  | true =>
   have hr1 : (0 : Int) = res := by simpa using hr0
   subst hr1
   clear hr0
   go_wp2_with (first
    | (refine at_op (.load 96 (.tmp 4)) rfl ?_; go_must (refine wpList_ldB rfl _ _ rfl (w.heap.size + 1 + 1) 0 rfl B4 33 (by omega) _ underlying96 rfl rrInfo L4 (tk0 (by omega)) ?_))
    | (refine at_op (.store 96 (.tmp 2) (.tmp 79)) rfl ?_; go_must (refine wpList_stB rfl _ _ _ rfl (w.heap.size + 1) 0 rfl L4 rfl B2 (by rw [rrZ_len]; omega) (by rw [L4l]; exact rrInfo) L4c.out ?_)))
   intro w6 hb6 hg6 hs6
   rw [List.drop_of_length_le (by rw [rrZ_len]; omega), List.append_nil] at hb6
   have HB6 : Below w.heap.size w w6 := below_grown HB hg6 HB.size (by omega)
   clear hg6
   go_wp2_with fail
   refine ret_cell_tmp rfl (w.heap.size + 1) rfl hb6 _ underlying96 rfl (by rw [L4l]; exact rrInfo) rfl _ rfl ?_
   exact RetB.mk rfl HB6
  | false =>
   have hr1 : (4 : Int) = res := by simpa using hr0
   subst hr1
   clear hr0
   go_wp2_with (first
    | (refine at_op (.load 96 (.tmp 4)) rfl ?_; go_must (refine wpList_ldB rfl _ _ rfl (w.heap.size + 1 + 1) 0 rfl B4 33 (by omega) _ underlying96 rfl rrInfo L4 (tk0 (by omega)) ?_))
    | (refine at_op (.store 96 (.tmp 2) (.tmp 78)) rfl ?_; go_must (refine wpList_stB rfl _ _ _ rfl (w.heap.size + 1) 0 rfl L4 rfl B2 (by rw [rrZ_len]; omega) (by rw [L4l]; exact rrInfo) L4c.out ?_)))
   intro w6 hb6 hg6 hs6
   rw [List.drop_of_length_le (by rw [rrZ_len]; omega), List.append_nil] at hb6
   have HB6 : Below w.heap.size w w6 := below_grown HB hg6 HB.size (by omega)
   clear hg6
   go_wp2_with fail
   refine ret_cell_tmp rfl (w.heap.size + 1) rfl hb6 _ underlying96 rfl (by rw [L4l]; exact rrInfo) rfl _ rfl ?_
   exact RetB.mk rfl HB6
 ·
  have hr1 : e = res := by rw [← hres'.out, if_pos he]
  subst hr1
  have he' : (e != 0) = true := by simpa using he
  clear hres' WI he
  go_wp2_with (first
   | (refine at_op (.load 96 (.tmp 4)) rfl ?_; go_must (refine wpList_ldB rfl _ _ rfl (w.heap.size + 1 + 1) 0 rfl B4 33 (by omega) _ underlying96 rfl rrInfo L4 (tk0 (by omega)) ?_))
   | (refine at_op (.store 96 (.tmp 2) (.tmp 72)) rfl ?_; go_must (refine wpList_stB rfl _ _ _ rfl (w.heap.size + 1) 0 rfl L4 rfl B2 (by rw [rrZ_len]; omega) (by rw [L4l]; exact rrInfo) L4c.out ?_)))
  intro w6 hb6 hg6 hs6
  rw [List.drop_of_length_le (by rw [rrZ_len]; omega), List.append_nil] at hb6
  have HB6 : Below w.heap.size w w6 := below_grown HB hg6 HB.size (by omega)
  clear hg6
  go_wp2_with fail
  refine ret_cell_tmp rfl (w.heap.size + 1) rfl hb6 _ underlying96 rfl (by rw [L4l]; exact rrInfo) rfl _ rfl ?_
  exact RetB.mk rfl HB6
def HasRet (r : RR) (w : World) : Ending → World → Prop := fun e w' => ∃ cs, e = .returned (.tuple #[.agg cs.toArray, .int .i64 (hasE r)]) ∧ RRis w' cs (clearR r) ∧ Below w.heap.size w w'
theorem NmR.nil (w : World) : NmR w none 0 [] := ⟨fun h => absurd h (by simp), by simp, by simp, by simp⟩
theorem kindR_cases (ty cl : Int) : kindR ty cl = 1 ∨ kindR ty cl = 28 ∨ (kindR ty cl = 5 ∨ kindR ty cl = 12) ∨ kindR ty cl = 33 ∨ kindR ty cl = 6 ∨ kindR ty cl = 0 := by
 unfold kindR
 by_cases h : cl = 1 ∧ (ty = 1 ∨ ty = 28 ∨ ty = 5 ∨ ty = 12 ∨ ty = 33 ∨ ty = 6)
 ·
  rw [if_pos h]; obtain ⟨_, h | h | h | h | h | h⟩ := h <;> simp [h]
 ·
  rw [if_neg h]; simp
theorem has_any (cs : List Value) (r : RR) (w : World) (h : RRis w cs r) : Calls prog 338 #[.agg cs.toArray] w (HasRet r w) := by
 obtain ⟨An, cn, At, ct, Am, cm, rfl, hr, hN, hT, hM, hraw⟩ := h
 rcases kindR_cases r.ty r.cl with hk | hk | hk | hk | hk | hk
 ·
  refine (has_1 _ _ _ r hr rfl rfl rfl w hk).mono ?_
  rintro _ w' ⟨rfl, hB⟩
  refine ⟨_, by rw [hasE, if_pos hk]; rfl, ?_, hB⟩
  rw [clearR, if_pos (.inl hk)]
  exact ⟨An, cn, At, ct, Am, cm, rfl, ⟨rfl, hr.2⟩, hN.below hB, hT.below hB, hM.below hB, hraw⟩
 ·
  refine (has_28 _ _ _ r hr rfl rfl rfl w hk).mono ?_
  rintro _ w' ⟨rfl, hB⟩
  refine ⟨_, by rw [hasE, if_neg (by omega), if_pos hk]; rfl, ?_, hB⟩
  rw [clearR, if_pos (.inr hk)]
  exact ⟨An, cn, At, ct, Am, cm, rfl, ⟨rfl, hr.2⟩, hN.below hB, hT.below hB, hM.below hB, hraw⟩
 ·
  refine (has_5 _ _ At ct r hr rfl rfl w hT hk).mono ?_
  rintro _ w' ⟨rfl, hB⟩
  refine ⟨_, by rw [hasE, if_neg (by omega), if_neg (by omega), if_pos hk], ?_, hB⟩
  rw [clearR, if_neg (by omega), if_pos hk]
  exact ⟨An, cn, none, 0, Am, cm, rfl, hr, hN.below hB, NmR.nil _, hM.below hB, hraw⟩
 ·
  refine (has_33 _ _ At ct r hr rfl rfl w hT hk).mono ?_
  rintro _ w' ⟨rfl, hB⟩
  have e : (if [r.pri, r.we, r.po].all (inB 65535) = true then checkN r.tg else 4) = hasE r := by unfold hasE; rw [hk]; rfl
  refine ⟨_, by rw [e], ?_, hB⟩
  rw [clearR, if_neg (by omega), if_neg (by omega), if_pos hk]
  exact ⟨An, cn, none, 0, Am, cm, rfl, hr, hN.below hB, NmR.nil _, hM.below hB, hraw⟩
 ·
  refine (has_6 _ At Am ct cm r hr rfl w hT hM hk).mono ?_
  rintro _ w' ⟨rfl, hB⟩
  have e : (if namesE [r.tg, r.ml] ≠ 0 then namesE [r.tg, r.ml] else if r.nums.all (inB 4294967295) = true then 0 else 4) = hasE r := by
   have e0 : hasE r = (if checkN r.tg ≠ 0 then checkN r.tg else if checkN r.ml ≠ 0 then checkN r.ml else if r.nums.all (inB 4294967295) then 0 else 4) := by unfold hasE; rw [hk]; rfl
   rw [e0]
   simp only [namesE]
   by_cases h1 : checkN r.tg = 0
   ·
    by_cases h2 : checkN r.ml = 0 <;> simp [h1, h2]
   ·
    simp [h1]
  refine ⟨_, by rw [e], ?_, hB⟩
  rw [clearR, if_neg (by omega), if_neg (by omega), if_neg (by omega), if_pos hk]
  exact ⟨An, cn, none, 0, none, 0, rfl, ⟨hr.1, rfl⟩, hN.below hB, NmR.nil _, NmR.nil _, hraw⟩
 ·
  refine (has_0 _ _ _ r hr rfl rfl rfl w hraw hk).mono ?_
  rintro _ w' ⟨rfl, hB⟩
  have e : (if 65535 < r.raw.length then (3 : Int) else 0) = hasE r := by unfold hasE; rw [hk]; rfl
  refine ⟨_, by rw [e], ?_, hB⟩
  rw [clearR, if_neg (by omega), if_neg (by omega), if_neg (by omega), if_neg (by omega)]
  exact ⟨An, cn, At, ct, Am, cm, rfl, hr, hN.below hB, hT.below hB, hM.below hB, by simp⟩
theorem run_eqA0 (a : Adr) (ha : a.ip.length = 16) (w : World) : (Op.equalIn 10000 24 (.agg a.cells.toArray) (.agg #[.int .i64 0, .int .u8 0, .int .u8 0, .int .u8 0, .int .u8 0, .int .u8 0, .int .u8 0, .int .u8 0, .int .u8 0, .int .u8 0, .int .u8 0, .int .u8 0, .int .u8 0, .int .u8 0, .int .u8 0, .int .u8 0, .int .u8 0, .int .i64 0])).run prog w = .ok (decide (a = Adr.zero)) w :=
 run_eqA a Adr.zero ha rfl w
theorem run_eqN0 (l : List Int) (hl : l.length = 5) (w : World) : (Op.equalIn 10000 94 (.agg (ints64 l).toArray) (.agg #[.int .i64 0, .int .i64 0, .int .i64 0, .int .i64 0, .int .i64 0])).run prog w = .ok (l == [0, 0, 0, 0, 0]) w :=
 run_equalIn_ints w 9998 94 3 5 .i64 underlying94 underlying3 size_int l [0, 0, 0, 0, 0] hl rfl
theorem ne0_dec (n : Int) : (n != 0) = !decide (n = 0) := by by_cases h : n = 0 <;> simp [h]
theorem wpList_ldBg {P : Program} {ops : Array Oper} {rest : List Oper} {op : Oper} {a : Act} {w : World} {Q : Exit → Act → World → Prop} (hw : Region.wanted op (yielded ops a.tmps) = true) (ty : TypeId) (x : Operand) (ho : op.op = .load ty x)
  (g o : Nat) (hx : a.eval x = .pointer (some ⟨g, o, none⟩)) {t : TypeId} {L : List Value} (hb : Blk w g t L) (n : Nat) (hn : o + n ≤ L.length) (d : TypeDesc)
  (hu : P.underlying ty = some d) (hd : d.isRow = true) (hi : (P.info? ty).map (·.size) = some n) (sub : List Value) (hsub : (L.drop o).take n = sub)
  (h : wpList P ops Q rest (a.put op.dst (.agg sub.toArray)) w) : wpList P ops Q (op :: rest) a w := by
 have hl : sub.length = n := by rw [← hsub]; simp; omega
 refine wpList_step fun K hK => ?_
 rw [if_pos hw]
 exact wp_load_mid ty x ho g o hx sub d (hsub ▸ hb.range o n hn) hu hd (by rw [hl]; exact hi) (hK _ _ h)
set_option maxHeartbeats 4000000 in
theorem rcheck_any (cs : List Value) (r : RR) (w : World) (h : RRis w cs r) : Calls prog 318 #[.agg cs.toArray] w (RetB (.int .i64 (checkR r)) w) := by
 have hh := h
 obtain ⟨An, cn, At, ct, Am, cm, hcs, hr, hN, hT, hM, hraw⟩ := h
 have hl : cs.length = 33 := by rw [hcs]; exact rrC_len hr
 have L0 : cs[0]? = some (.slice An r.name.length cn) := by rw [hcs]; rfl
 have L1 : cs[1]? = some (.int .i64 r.ty) := by rw [hcs]; rfl
 have L2 : cs[2]? = some (.int .i64 r.cl) := by rw [hcs]; rfl
 have L3 : cs[3]? = some (.int .i64 r.ttl) := by rw [hcs]; rfl
 clear hcs
 have hB0 : Below w.heap.size w (w.alloc (.cells cs.toArray 96)) := (Below.refl _ _).alloc (Nat.le_refl _) _
 have hb := Blk.new w 96 cs
 have HH := Hh (fun w' (b : Below w.heap.size w w') => has_any cs r w' (hh.below b))
 have CN := Hh (fun w' (b : Below w.heap.size w w') => dcheck_any An cn r.name w' (hN.below b).1 (by have := hN.2.2.1; omega))
 have W1 := Hh (fun w A h => rwithin_any 65535 A 2 [r.ty, r.cl] w h (by simp))
 have W2 := Hh (fun w A h => rwithin_any 4294967295 A 1 [r.ttl] w h (by simp))
 have HE : Hid (checkR r = _) := Hh (by unfold checkR; rfl)
 generalize checkR r = res at *
 generalize r.ty = ty at *
 generalize r.cl = cl at *
 generalize r.ttl = ttl at *
 generalize checkN r.name = e0 at *
 generalize [ty, cl].all (inB 65535) = b1 at *
 have w2e : [ttl].all (inB 4294967295) = inB 4294967295 ttl := by simp
 rw [w2e] at W2
 clear w2e
 generalize inB 4294967295 ttl = b2 at *
 have u0 := hb.cell_ 0 L0
 have u1 := hb.cell_ 1 L1
 have u2 := hb.cell_ 2 L2
 have u3 := hb.cell_ 3 L3
 clear L0 L1 L2 hN hT hM hraw
 go_enter func318, ntmps318
 go_wp2_with fail
 refine (CN.out _ hB0).mono ?_
 rintro _ w1 ⟨rfl, rfl⟩
 clear CN
 by_cases h0 : e0 = 0
 case neg =>
  have hr0 := HE.out
  rw [if_pos h0] at hr0
  subst hr0
  have h0' : (res != 0) = true := by simpa using h0
  clear HE h0
  go_wp2_with fail
  go_ret
  exact RetB.mk rfl hB0
 subst h0
 have HE1 := Hh (HE.out.trans (if_neg (by simp)))
 clear HE
 generalize hw1 : w.alloc (.cells cs.toArray 96) = w1 at *
 have hs1 : w1.heap.size = w.heap.size + 1 := by rw [← hw1]; simp
 clear hw1
 go_wp2_with fail
 refine (W1.out _ _ (IntsR.new [ty, cl] _ hs1.symm 3)).mono ?_
 rintro _ w2 ⟨rfl, rfl⟩
 clear W1
 have hB1 := hB0.alloc hB0.size (.cells (ints64 [ty, cl]).toArray 3)
 have hb1 := hb.alloc (.cells (ints64 [ty, cl]).toArray 3)
 have hs2 : (w1.alloc (.cells (ints64 [ty, cl]).toArray 3)).heap.size = w.heap.size + 1 + 1 := by simp [hs1]
 generalize w1.alloc (.cells (ints64 [ty, cl]).toArray 3) = w2 at *
 clear hB0 hb hs1
 cases b1 with
 | false =>
  have hr0 := HE1.out
  rw [if_pos (.inl (by simp))] at hr0
  subst hr0
  clear HE1
  go_wp2_with fail
  go_ret
  exact RetB.mk rfl hB1
 | true =>
 have u3 := hb1.cell_ 3 L3
 clear L3
 go_wp2_with fail
 refine (W2.out _ _ (IntsR.new [ttl] _ hs2.symm 3)).mono ?_
 rintro _ w3 ⟨rfl, rfl⟩
 clear W2
 have hB2 := hB1.alloc hB1.size (.cells (ints64 [ttl]).toArray 3)
 have hb2 := hb1.alloc (.cells (ints64 [ttl]).toArray 3)
 have hs3 : (w2.alloc (.cells (ints64 [ttl]).toArray 3)).heap.size = w.heap.size + 1 + 1 + 1 := by simp [hs2]
 generalize w2.alloc (.cells (ints64 [ttl]).toArray 3) = w3 at *
 clear hB1 hb1 hs2 u3
 cases b2 with
 | false =>
  have hr0 := HE1.out
  rw [if_pos (.inr (by simp))] at hr0
  subst hr0
  clear HE1
  go_wp2_with fail
  go_ret
  exact RetB.mk rfl hB2
 | true =>
 have HE2 := Hh (HE1.out.trans (if_neg (by simp)))
 clear HE1
 go_wp2_with (refine at_op (.load 96 (.tmp 1)) rfl ?_; go_must (refine wpList_ldB rfl _ _ rfl w.heap.size 0 rfl hb2 33 (by omega) _ underlying96 rfl rrInfo cs (tk0 (by omega)) ?_))
 go_wp2_with fail
 refine (HH.out _ hB2).mono ?_
 rintro _ w4 ⟨cs4, rfl, hR4, hB4'⟩
 have hB4 := below_then hB2 hB2.size hB4'
 clear HH hB4' hb2 hB2 hs3 hl hh
 obtain ⟨An4, cn4, At4, ct4, Am4, cm4, hcs4, hr4, hN4, hT4, hM4, hraw4⟩ := hR4
 generalize clearR r = r4 at *
 have hl4 : cs4.length = 33 := by rw [hcs4]; exact rrC_len hr4
 have M22 : cs4[22]? = some (.slice At4 r4.tg.length ct4) := by rw [hcs4]; exact rrC_22 hr4
 have M23 : cs4[23]? = some (.slice Am4 r4.ml.length cm4) := by rw [hcs4]; exact rrC_23 hr4
 have M24 : cs4[24]? = some (.int .i64 r4.pri) := by rw [hcs4]; exact rrC_24 hr4
 have M25 : cs4[25]? = some (.int .i64 r4.we) := by rw [hcs4]; exact rrC_25 hr4
 have M26 : cs4[26]? = some (.int .i64 r4.po) := by rw [hcs4]; exact rrC_26 hr4
 have M32 : cs4[32]? = some (.string (bs r4.raw)) := by rw [hcs4]; exact rrC_32 hr4
 have LA : Hid ((cs4.drop 4).take 18 = r4.ad.cells) := Hh (by rw [hcs4]; exact rrC_ad hr4)
 have LN : Hid ((cs4.drop 27).take 5 = ints64 r4.nums) := Hh (by rw [hcs4]; exact rrC_nums hr4)
 have L1c : Hid (∀ v ∈ cs4, v.oneCell' = true) := Hh (by rw [hcs4]; exact rrC_one rfl rfl rfl)
 clear hcs4
 have EA := run_eqA0 r4.ad hr4.1
 have EN := run_eqN0 r4.nums hr4.2
 have tb := hT4.2.2.1
 have mb := hM4.2.2.1
 clear hN4 hT4 hM4
 have HE3 : Hid (res = if hasE r ≠ 0 then hasE r else if bareB r4 then 0 else 5) := HE2
 clear HE2
 generalize hasE r = e1 at *
 go_wp2_with (refine at_op (.store 96 (.tmp 4) (.tmp 29)) rfl ?_; go_must (refine wpList_stB rfl _ _ _ rfl w4.heap.size 0 rfl cs4 rfl (Blk.new' _ _ rrZ _ (by simp)) (by rw [rrZ_len]; omega) (by rw [hl4]; exact rrInfo) L1c.out ?_))
 intro w5 hb5 hg5 hs5
 rw [List.drop_of_length_le (by rw [rrZ_len]; omega), List.append_nil] at hb5
 have B4 := hb5
 have hB5 : Below w.heap.size w w5 := below_grown (hB4.alloc hB4.size _) hg5 (by have := hB4.size; simp; omega) hB4.size
 clear hb5 hg5 hB4 L1c hr hs5
 by_cases h1 : e1 = 0
 case neg =>
  have hr0 := HE3.out
  rw [if_pos h1] at hr0
  subst hr0
  have h0' : (res != 0) = true := by simpa using h1
  clear HE3 h1 EA EN M22 M23 M24 M25 M26 M32
  go_wp2_with fail
  go_ret
  exact RetB.mk rfl hB5
 subst h1
 have HE4 := HE3.out.trans (if_neg (by simp))
 clear HE3
 have c22 := B4.cell_ 22 M22
 have c23 := B4.cell_ 23 M23
 have c24 := B4.cell_ 24 M24
 have c25 := B4.cell_ 25 M25
 have c26 := B4.cell_ 26 M26
 have c32 := B4.cell_ 32 M32
 clear M22 M23 M24 M25 M26 M32
 have q1 : decide (r4.tg = []) = true ↔ r4.tg.length = 0 := by simp
 have q2 : decide (r4.ml = []) = true ↔ r4.ml.length = 0 := by simp
 have q3 := ne0_dec r4.pri
 have q4 := ne0_dec r4.we
 have q5 := ne0_dec r4.po
 have q6 : (r4.nums == [0, 0, 0, 0, 0]) = decide (r4.nums = [0, 0, 0, 0, 0]) := by by_cases h : r4.nums = [0, 0, 0, 0, 0] <;> simp [h]
 have q7 : decide (r4.raw = []) = true ↔ r4.raw = [] := by simp
 rw [q6] at EN
 clear q6
 unfold bareB at HE4
 generalize decide (r4.ad = Adr.zero) = bA at *
 generalize decide (r4.tg = []) = bT at *
 generalize decide (r4.ml = []) = bM at *
 generalize decide (r4.pri = 0) = bP at *
 generalize decide (r4.we = 0) = bW at *
 generalize decide (r4.po = 0) = bO at *
 generalize decide (r4.nums = [0, 0, 0, 0, 0]) = bN at *
 generalize decide (r4.raw = []) = bR at *
 generalize r4.ad.cells = LAd at *
 generalize ints64 r4.nums = LNs at *
 generalize r4.pri = pri at *
 generalize r4.we = we at *
 generalize r4.po = po at *
 generalize r4.tg.length = n1 at *
 generalize r4.ml.length = n2 at *
 generalize r4.raw = raw at *
 have HE5 := Hh HE4
 clear HE4 hr4
 cases bA with
 | false =>
  have hr0 : res = 5 := by simpa using HE5.out
  subst hr0
  clear HE5 q1 q2 q3 q4 q5 q7
  go_wp2_with (first
   | (refine at_op (.load 24 (.tmp 34)) rfl ?_; go_must (refine wpList_ldB rfl _ _ rfl w4.heap.size 4 rfl B4 18 (by omega) _ underlying24 rfl adrInfo LAd LA.out ?_))
   | (refine at_op (.load 94 (.tmp 66)) rfl ?_; refine wpList_ldBg (by kernel_rfl) 94 (.tmp 66) rfl w4.heap.size 27 rfl B4 5 (by omega) _ underlying94 rfl numsInfo LNs LN.out ?_))
  go_ret
  exact RetB.mk rfl hB5
 | true =>
 cases bT with
 | false =>
  have hr0 : res = 5 := by simpa using HE5.out
  subst hr0
  have p1 : 0 < n1 := by simp at q1; omega
  have p2 : (0 : Int) < n1 := by omega
  clear HE5 q1 q2 q3 q4 q5 q7
  go_wp2_with (first
   | (refine at_op (.load 24 (.tmp 34)) rfl ?_; go_must (refine wpList_ldB rfl _ _ rfl w4.heap.size 4 rfl B4 18 (by omega) _ underlying24 rfl adrInfo LAd LA.out ?_))
   | (refine at_op (.load 94 (.tmp 66)) rfl ?_; refine wpList_ldBg (by kernel_rfl) 94 (.tmp 66) rfl w4.heap.size 27 rfl B4 5 (by omega) _ underlying94 rfl numsInfo LNs LN.out ?_))
  go_ret
  exact RetB.mk rfl hB5
 | true =>
 obtain rfl := q1.1 rfl
 clear q1
 cases bM with
 | false =>
  have hr0 : res = 5 := by simpa using HE5.out
  subst hr0
  have p1 : 0 < n2 := by simp at q2; omega
  have p2 : (0 : Int) < n2 := by omega
  clear HE5 q2 q3 q4 q5 q7
  go_wp2_with (first
   | (refine at_op (.load 24 (.tmp 34)) rfl ?_; go_must (refine wpList_ldB rfl _ _ rfl w4.heap.size 4 rfl B4 18 (by omega) _ underlying24 rfl adrInfo LAd LA.out ?_))
   | (refine at_op (.load 94 (.tmp 66)) rfl ?_; refine wpList_ldBg (by kernel_rfl) 94 (.tmp 66) rfl w4.heap.size 27 rfl B4 5 (by omega) _ underlying94 rfl numsInfo LNs LN.out ?_))
  go_ret
  exact RetB.mk rfl hB5
 | true =>
 obtain rfl := q2.1 rfl
 clear q2
 cases bP with
 | false =>
  have hr0 : res = 5 := by simpa using HE5.out
  subst hr0
  simp only [Bool.not_false] at q3
  clear HE5 q4 q5 q7
  go_wp2_with (first
   | (refine at_op (.load 24 (.tmp 34)) rfl ?_; go_must (refine wpList_ldB rfl _ _ rfl w4.heap.size 4 rfl B4 18 (by omega) _ underlying24 rfl adrInfo LAd LA.out ?_))
   | (refine at_op (.load 94 (.tmp 66)) rfl ?_; refine wpList_ldBg (by kernel_rfl) 94 (.tmp 66) rfl w4.heap.size 27 rfl B4 5 (by omega) _ underlying94 rfl numsInfo LNs LN.out ?_))
  go_ret
  exact RetB.mk rfl hB5
 | true =>
 cases bW with
 | false =>
  have hr0 : res = 5 := by simpa using HE5.out
  subst hr0
  simp only [Bool.not_false, Bool.not_true] at q3 q4
  clear HE5 q5 q7
  go_wp2_with (first
   | (refine at_op (.load 24 (.tmp 34)) rfl ?_; go_must (refine wpList_ldB rfl _ _ rfl w4.heap.size 4 rfl B4 18 (by omega) _ underlying24 rfl adrInfo LAd LA.out ?_))
   | (refine at_op (.load 94 (.tmp 66)) rfl ?_; refine wpList_ldBg (by kernel_rfl) 94 (.tmp 66) rfl w4.heap.size 27 rfl B4 5 (by omega) _ underlying94 rfl numsInfo LNs LN.out ?_))
  go_ret
  exact RetB.mk rfl hB5
 | true =>
 cases bO with
 | false =>
  have hr0 : res = 5 := by simpa using HE5.out
  subst hr0
  simp only [Bool.not_false, Bool.not_true] at q3 q4 q5
  clear HE5 q7
  go_wp2_with (first
   | (refine at_op (.load 24 (.tmp 34)) rfl ?_; go_must (refine wpList_ldB rfl _ _ rfl w4.heap.size 4 rfl B4 18 (by omega) _ underlying24 rfl adrInfo LAd LA.out ?_))
   | (refine at_op (.load 94 (.tmp 66)) rfl ?_; refine wpList_ldBg (by kernel_rfl) 94 (.tmp 66) rfl w4.heap.size 27 rfl B4 5 (by omega) _ underlying94 rfl numsInfo LNs LN.out ?_))
  go_ret
  exact RetB.mk rfl hB5
 | true =>
 cases bN with
 | false =>
  have hr0 : res = 5 := by simpa using HE5.out
  subst hr0
  simp only [Bool.not_true] at q3 q4 q5
  clear HE5 q7
  go_wp2_with (first
   | (refine at_op (.load 24 (.tmp 34)) rfl ?_; go_must (refine wpList_ldB rfl _ _ rfl w4.heap.size 4 rfl B4 18 (by omega) _ underlying24 rfl adrInfo LAd LA.out ?_))
   | (refine at_op (.load 94 (.tmp 66)) rfl ?_; refine wpList_ldBg (by kernel_rfl) 94 (.tmp 66) rfl w4.heap.size 27 rfl B4 5 (by omega) _ underlying94 rfl numsInfo LNs LN.out ?_))
  go_ret
  exact RetB.mk rfl hB5
 | true =>
 cases bR with
 | false =>
  have hr0 : res = 5 := by simpa using HE5.out
  subst hr0
  simp only [Bool.not_true] at q3 q4 q5
  have p1 : raw ≠ [] := by simpa using q7
  have p2 : raw.isEmpty = false := by simpa using p1
  clear HE5 q7
  go_wp2_with (first
   | (refine at_op (.load 24 (.tmp 34)) rfl ?_; go_must (refine wpList_ldB rfl _ _ rfl w4.heap.size 4 rfl B4 18 (by omega) _ underlying24 rfl adrInfo LAd LA.out ?_))
   | (refine at_op (.load 94 (.tmp 66)) rfl ?_; refine wpList_ldBg (by kernel_rfl) 94 (.tmp 66) rfl w4.heap.size 27 rfl B4 5 (by omega) _ underlying94 rfl numsInfo LNs LN.out ?_))
  go_ret
  exact RetB.mk rfl hB5
 | true =>
  have hr0 : res = 0 := by simpa using HE5.out
  subst hr0
  simp only [Bool.not_true] at q3 q4 q5
  obtain rfl := q7.1 rfl
  clear HE5 q7
  go_wp2_with (first
   | (refine at_op (.load 24 (.tmp 34)) rfl ?_; go_must (refine wpList_ldB rfl _ _ rfl w4.heap.size 4 rfl B4 18 (by omega) _ underlying24 rfl adrInfo LAd LA.out ?_))
   | (refine at_op (.load 94 (.tmp 66)) rfl ?_; refine wpList_ldBg (by kernel_rfl) 94 (.tmp 66) rfl w4.heap.size 27 rfl B4 5 (by omega) _ underlying94 rfl numsInfo LNs LN.out ?_))
  go_ret
  exact RetB.mk rfl hB5
abbrev Tab := List (List (List UInt8) × Nat)
def TabO (lo : Nat) (w : World) (p : Option Addr) : Option Tab → Prop
 | none => p = none
 | some T => ∃ g b, p = some ⟨g, 0, none⟩ ∧ lo ≤ g ∧ lo ≤ b ∧ TabAt w g b T
def putSO (T : Option Tab) (at_ : Int) (n : List (List UInt8)) : List UInt8 := match T with
 | none => putZ n
 | some T => putS T at_ n
def putTO (T : Option Tab) (at_ : Int) (n : List (List UInt8)) : Option Tab := T.map fun T => putT T at_ n
def fewO (T : Option Tab) (k : Nat) : Prop := ∀ T', T = some T' → T'.length ≤ k
theorem fewO.put {T : Option Tab} {k : Nat} (h : fewO T k) (at_ : Int) (n : List (List UInt8)) : fewO (putTO T at_ n) (k + 254) := by
 intro T' hT'
 cases T with
 | none => cases hT'
 | some T =>
  obtain rfl : putT T at_ n = T' := by simpa [putTO] using hT'
  have := h T rfl; have := putT_length T at_ n; omega
theorem TabO.below {lo : Nat} {w w' : World} {p : Option Addr} {T : Option Tab} (h : TabO lo w p T) (hb : Below w.heap.size w w') : TabO lo w' p T := by
 cases T with
 | none => exact h
 | some T => obtain ⟨g, b, h1, h2, h3, h4⟩ := h; exact ⟨g, b, h1, h2, h3, h4.below hb⟩
def Keep (lo : Nat) (w w' : World) : Prop := Below lo w w' ∧ ∀ (g : Nat) (t : TypeId) (cs : Array Value) (fz : Nat × Nat), w.heap[g]? = some (.cells cs t fz) → w'.heap[g]? = some (.cells cs t fz)
theorem Keep.blk {lo : Nat} {w w' : World} (h : Keep lo w w') {g : Nat} {t : TypeId} {cs : List Value} (hb : Blk w g t cs) : Blk w' g t cs := h.2 g t cs.toArray (0, 0) hb
theorem Keep.trans {lo : Nat} {w w1 w2 : World} (h : Keep lo w w1) (h' : Keep lo w1 w2) : Keep lo w w2 := ⟨h.1.trans h'.1, fun g t cs fz hb => h'.2 g t cs fz (h.2 g t cs fz hb)⟩
theorem heap_lt {w : World} {g : Nat} {o : Obj} (h : w.heap[g]? = some o) : g < w.heap.size := (Array.getElem?_eq_some_iff.1 h).1
theorem Keep.old {lo : Nat} {w w1 : World} (h : Below w.heap.size w w1) (hlo : lo ≤ w.heap.size) : Keep lo w w1 := ⟨h.mono hlo, fun g t cs fz hb => (h.block g (heap_lt hb)).trans hb⟩
def PutO (lo : Nat) (p : Option Addr) (s : List UInt8) (e : Int) (T : Option Tab) (w : World) (x : Ending) (w' : World) : Prop :=
 x = .returned (.tuple #[.string (bs s), .int .i64 e]) ∧ TabO lo w' p T ∧ Keep lo w w'
theorem putO_any (lo : Nat) (p : Option Addr) (T : Option Tab) (A : Option Addr) (c : Nat) (n : List (List UInt8)) (at_ : Int) (w : World) (hlo : lo ≤ w.heap.size) (hT : TabO lo w p T) (hA : NmR w A c n) (hf : fewO T 900000) :
  Calls prog 340 #[.pointer p, .slice A n.length c, .int .i64 at_] w (PutO lo p (putSO T at_ n) (checkN n) (putTO T at_ n) w) := by
 cases T with
 | none =>
  obtain rfl : p = none := hT
  refine (putNil_any A c n at_ w hA).mono ?_
  rintro _ w' ⟨rfl, hB⟩
  exact ⟨rfl, rfl, Keep.old hB hlo⟩
 | some T =>
  obtain ⟨g, b, rfl, h2, h3, h4⟩ := hT
  refine (putTab_any g b T A c n at_ w h4 hA (hf T rfl)).mono ?_
  rintro _ w' ⟨rfl, h5, h6⟩
  have hne : ∀ (k : Nat) (t : TypeId) (cs : Array Value) (fz : Nat × Nat), w.heap[k]? = some (.cells cs t fz) → some k ≠ some b := by
   obtain ⟨_, ⟨f, ⟨D, ⟨es, cl, hm, _⟩, _⟩, _⟩, _⟩ := h4
   intro k t cs fz hb he
   obtain rfl := Option.some.inj he
   rw [hb] at hm; cases hm
  exact ⟨rfl, ⟨g, b, rfl, h2, h3, h5⟩, below_grown (Below.refl _ _) h6 hlo h3, fun k t cs fz hb => (h6.block k (heap_lt hb) (hne k t cs fz hb)).trans hb⟩
def dataR (T : Option Tab) (at_ : Int) (r : RR) : List UInt8 :=
 if kindR r.ty r.cl = 1 then r.ad.ip.take 4
 else if kindR r.ty r.cl = 28 then r.ad.ip
 else if kindR r.ty r.cl = 5 ∨ kindR r.ty r.cl = 12 then putSO T at_ r.tg
 else if kindR r.ty r.cl = 33 then putB 2 r.pri ++ putB 2 r.we ++ putB 2 r.po ++ putZ r.tg
 else if kindR r.ty r.cl = 6 then putSO T at_ r.tg ++ putSO (putTO T at_ r.tg) (at_ + (putSO T at_ r.tg).length) r.ml ++ r.nums.flatMap (putB 4)
 else r.raw
def tabR (T : Option Tab) (at_ : Int) (r : RR) : Option Tab :=
 if kindR r.ty r.cl = 5 ∨ kindR r.ty r.cl = 12 then putTO T at_ r.tg
 else if kindR r.ty r.cl = 6 then putTO (putTO T at_ r.tg) (at_ + (putSO T at_ r.tg).length) r.ml
 else T
theorem hasE_ok {r : RR} (h : checkR r = 0) : checkN r.name = 0 ∧ hasE r = 0 := by
 unfold checkR at h
 by_cases h1 : checkN r.name = 0
 ·
  refine ⟨h1, ?_⟩
  rw [if_neg (by simp [h1])] at h
  split at h
  ·
   omega
  ·
   by_cases h2 : hasE r = 0
   ·
    exact h2
   ·
    rw [if_pos h2] at h; exact h
 ·
  rw [if_pos h1] at h; exact absurd h h1
theorem rput_bad (cs : List Value) (r : RR) (at_ : Int) (p : Option Addr) (w : World) (h : RRis w cs r) (hc : checkR r ≠ 0) :
  Calls prog 324 #[.agg cs.toArray, .int .i64 at_, .pointer p] w (RetB (.tuple #[.string (bs []), .int .i64 (checkR r)]) w) := by
 have CK := Hh (fun w' (b : Below w.heap.size w w') => rcheck_any cs r w' (h.below b))
 have hl : cs.length = 33 := by obtain ⟨_, _, _, _, _, _, rfl, hr, _⟩ := h; exact rrC_len hr
 generalize checkR r = e at *
 have he : (e != 0) = true := by simpa using hc
 clear hc h
 have B0 := Blk.new w 96 cs
 have HB0 : Below w.heap.size w (w.alloc (.cells cs.toArray 96)) := (Below.refl _ _).alloc (Nat.le_refl _) _
 go_enter func324, ntmps324
 go_wp2_with (refine at_op (.load 96 (.tmp 3)) rfl ?_; go_must (refine wpList_ldB rfl _ _ rfl w.heap.size 0 rfl B0 33 (by omega) _ underlying96 rfl rrInfo cs (tk0 (by omega)) ?_))
 go_wp2_with fail
 refine (CK.out _ HB0).mono ?_
 rintro _ w2 ⟨rfl, b2⟩
 have B := B0.below b2 B0.lt
 have HB := below_then HB0 HB0.size b2
 clear B0 HB0 b2 CK
 go_wp2_with fail
 go_ret2
 exact RetB.mk rfl HB
set_option maxHeartbeats 1000000 in
theorem rput_raw (cs : List Value) (r : RR) (at_ : Int) (p : Option Addr) (w : World) (h : RRis w cs r) (hc : checkR r = 0) (hk : kindR r.ty r.cl = 0) :
  Calls prog 324 #[.agg cs.toArray, .int .i64 at_, .pointer p] w (RetB (.tuple #[.string (bs r.raw), .int .i64 0]) w) := by
 have CK := Hh (fun w' (b : Below w.heap.size w w') => rcheck_any cs r w' (h.below b))
 have hl : cs.length = 33 := by obtain ⟨_, _, _, _, _, _, rfl, hr, _⟩ := h; exact rrC_len hr
 have L1 : cs[1]? = some (.int .i64 r.ty) := by obtain ⟨_, _, _, _, _, _, rfl, hr, _⟩ := h; rfl
 have L2 : cs[2]? = some (.int .i64 r.cl) := by obtain ⟨_, _, _, _, _, _, rfl, hr, _⟩ := h; rfl
 have L32 : cs[32]? = some (.string (bs r.raw)) := by obtain ⟨_, _, _, _, _, _, rfl, hr, _⟩ := h; exact rrC_32 hr
 have K := Hh (fun w => kindOf_any r.ty r.cl w)
 rw [hk] at K
 rw [hc] at CK
 clear h hc hk
 generalize r.ty = ty at *
 generalize r.cl = cl at *
 have B0 := Blk.new w 96 cs
 have HB0 : Below w.heap.size w (w.alloc (.cells cs.toArray 96)) := (Below.refl _ _).alloc (Nat.le_refl _) _
 go_enter func324, ntmps324
 go_wp2_with (refine at_op (.load 96 (.tmp 3)) rfl ?_; go_must (refine wpList_ldB rfl _ _ rfl w.heap.size 0 rfl B0 33 (by omega) _ underlying96 rfl rrInfo cs (tk0 (by omega)) ?_))
 go_wp2_with fail
 refine (CK.out _ HB0).mono ?_
 rintro _ w2 ⟨rfl, b2⟩
 have B := B0.below b2 B0.lt
 have HB := below_then HB0 HB0.size b2
 clear B0 HB0 b2 CK
 have u1 := B.cell_ 1 L1
 have u2 := B.cell_ 2 L2
 go_wp2_with fail
 refine (K.out _).mono ?_
 rintro _ w3 ⟨rfl, rfl⟩
 have u32 := B.cell_ 32 L32
 clear K u1 u2 L1 L2 L32
 go_wp2_with fail
 go_ret2
 exact RetB.mk rfl HB
set_option maxHeartbeats 1000000 in
theorem rput_name (lo : Nat) (cs : List Value) (r : RR) (at_ : Int) (p : Option Addr) (T : Option Tab) (w : World) (h : RRis w cs r) (hlo : lo ≤ w.heap.size) (hT : TabO lo w p T) (hf : fewO T 900000) (hc : checkR r = 0) (hk : kindR r.ty r.cl = 5 ∨ kindR r.ty r.cl = 12) :
  Calls prog 324 #[.agg cs.toArray, .int .i64 at_, .pointer p] w (PutO lo p (putSO T at_ r.tg) (checkN r.tg) (putTO T at_ r.tg) w) := by
 have CK := Hh (fun w' (b : Below w.heap.size w w') => rcheck_any cs r w' (h.below b))
 have hl : cs.length = 33 := by obtain ⟨_, _, _, _, _, _, rfl, hr, _⟩ := h; exact rrC_len hr
 have L1 : cs[1]? = some (.int .i64 r.ty) := by obtain ⟨_, _, _, _, _, _, rfl, hr, _⟩ := h; rfl
 have L2 : cs[2]? = some (.int .i64 r.cl) := by obtain ⟨_, _, _, _, _, _, rfl, hr, _⟩ := h; rfl
 obtain ⟨At, ct, L22, hR⟩ : ∃ At ct, cs[22]? = some (.slice At r.tg.length ct) ∧ NmR w At ct r.tg := by
  obtain ⟨_, _, At, ct, _, _, rfl, hr, _, hR, _⟩ := h; exact ⟨At, ct, rrC_22 hr, hR⟩
 have K := Hh (fun w => kindOf_any r.ty r.cl w)
 rw [hc] at CK
 clear h hc
 have PT := Hh (fun w' (b : Below w.heap.size w w') => putO_any lo p T At ct r.tg at_ w' (Nat.le_trans hlo b.size) (hT.below b) (hR.below b) hf)
 generalize putSO T at_ r.tg = s at *
 generalize putTO T at_ r.tg = T' at *
 generalize checkN r.tg = e at *
 generalize r.tg.length = n at *
 generalize kindR r.ty r.cl = k at *
 generalize r.ty = ty at *
 generalize r.cl = cl at *
 clear hT hf hR
 rcases hk with rfl | rfl
 all_goals
  have B0 := Blk.new w 96 cs
  have HB0 : Below w.heap.size w (w.alloc (.cells cs.toArray 96)) := (Below.refl _ _).alloc (Nat.le_refl _) _
  go_enter func324, ntmps324
  go_wp2_with (refine at_op (.load 96 (.tmp 3)) rfl ?_; go_must (refine wpList_ldB rfl _ _ rfl w.heap.size 0 rfl B0 33 (by omega) _ underlying96 rfl rrInfo cs (tk0 (by omega)) ?_))
  go_wp2_with fail
  refine (CK.out _ HB0).mono ?_
  rintro _ w2 ⟨rfl, b2⟩
  have B := B0.below b2 B0.lt
  have HB := below_then HB0 HB0.size b2
  clear B0 HB0 b2 CK
  have u1 := B.cell_ 1 L1
  have u2 := B.cell_ 2 L2
  go_wp2_with fail
  refine (K.out _).mono ?_
  rintro _ w3 ⟨rfl, rfl⟩
  have u22 := B.cell_ 22 L22
  clear K u1 u2 L1 L2 L22
  go_wp2_with fail
  refine (PT.out _ HB).mono ?_
  rintro _ w3 ⟨rfl, hT3, hB3⟩
  go_wp2_with fail
  go_ret2
  exact ⟨rfl, hT3, (Keep.old HB hlo).trans hB3⟩
theorem rrC_ip {vn vt vm : Value} {r : RR} (h : r.wf) (j : Nat) (hj : j < r.ad.ip.length) : (rrC vn vt vm r)[5 + j]? = some (.int .u8 (r.ad.ip[j].toNat : Int)) := by
 have h16 := h.1
 have e : ((rrC vn vt vm r).drop 4).take 18 = r.ad.cells := rrC_ad h
 have e1 : (((rrC vn vt vm r).drop 4).take 18)[1 + j]? = (rrC vn vt vm r)[5 + j]? := by
  rw [List.getElem?_take_of_lt (by omega), List.getElem?_drop]; congr 1; omega
 rw [← e1, e, Adr.cells, Nat.add_comm 1 j, List.getElem?_cons_succ, List.getElem?_append_left (by rw [octs_length]; exact hj), octs_get _ _ hj]
theorem conv_at {w : World} {g o : Nat} {t : TypeId} {L : List Value} (h : Blk w g t L) (q : List UInt8) (cap : Nat) (hq : ∀ j (hj : j < q.length), L[o + j]? = some (.int .u8 (q[j].toNat : Int))) :
  (convert 131 9 (.slice (some ⟨g, o, none⟩) q.length cap)).run prog w = .ok (.string (bs q)) w :=
 run_convert_bytes_back w 131 9 5 ⟨g, o, none⟩ cap q underlying131 underlying5 underlying9 fun j hj => by
  have h1 := h.cell_ (o + j) (hq j hj)
  cases j with
  | zero => exact h1
  | succ j => exact h1
set_option maxHeartbeats 1000000 in
theorem rput_addr (cs : List Value) (r : RR) (at_ : Int) (p : Option Addr) (w : World) (h : RRis w cs r) (hc : checkR r = 0) (hk : kindR r.ty r.cl = 1 ∨ kindR r.ty r.cl = 28) :
  Calls prog 324 #[.agg cs.toArray, .int .i64 at_, .pointer p] w (RetB (.tuple #[.string (bs (if kindR r.ty r.cl = 1 then r.ad.ip.take 4 else r.ad.ip)), .int .i64 0]) w) := by
 have CK := Hh (fun w' (b : Below w.heap.size w w') => rcheck_any cs r w' (h.below b))
 have hl : cs.length = 33 := by obtain ⟨_, _, _, _, _, _, rfl, hr, _⟩ := h; exact rrC_len hr
 have L1 : cs[1]? = some (.int .i64 r.ty) := by obtain ⟨_, _, _, _, _, _, rfl, hr, _⟩ := h; rfl
 have L2 : cs[2]? = some (.int .i64 r.cl) := by obtain ⟨_, _, _, _, _, _, rfl, hr, _⟩ := h; rfl
 have h16 : r.ad.ip.length = 16 := by obtain ⟨_, _, _, _, _, _, rfl, hr, _⟩ := h; exact hr.1
 have LI : Hid (∀ j (hj : j < r.ad.ip.length), cs[5 + j]? = some (.int .u8 (r.ad.ip[j].toNat : Int))) := Hh (by obtain ⟨_, _, _, _, _, _, rfl, hr, _⟩ := h; exact fun j hj => rrC_ip hr j hj)
 have K := Hh (fun w => kindOf_any r.ty r.cl w)
 rw [hc] at CK
 clear h hc
 generalize kindR r.ty r.cl = k at *
 generalize r.ad.ip = ip at *
 generalize r.ty = ty at *
 generalize r.cl = cl at *
 rcases hk with rfl | rfl
 ·
  rw [if_pos rfl]
  have h4 : (ip.take 4).length = 4 := by simp [h16]
  have B0 := Blk.new w 96 cs
  have HB0 : Below w.heap.size w (w.alloc (.cells cs.toArray 96)) := (Below.refl _ _).alloc (Nat.le_refl _) _
  go_enter func324, ntmps324
  go_wp2_with (refine at_op (.load 96 (.tmp 3)) rfl ?_; go_must (refine wpList_ldB rfl _ _ rfl w.heap.size 0 rfl B0 33 (by omega) _ underlying96 rfl rrInfo cs (tk0 (by omega)) ?_))
  go_wp2_with fail
  refine (CK.out _ HB0).mono ?_
  rintro _ w2 ⟨rfl, b2⟩
  have B := B0.below b2 B0.lt
  have HB := below_then HB0 HB0.size b2
  clear B0 HB0 b2 CK
  have u1 := B.cell_ 1 L1
  have u2 := B.cell_ 2 L2
  go_wp2_with fail
  refine (K.out _).mono ?_
  rintro _ w3 ⟨rfl, rfl⟩
  have CV := conv_at (o := 5) B (ip.take 4) 16 (fun j hj => by rw [LI.out j (by omega)]; simp)
  rw [h4] at CV
  generalize ip.take 4 = q at *
  clear K u1 u2 L1 L2 LI h16
  go_wp2_with fail
  go_ret2
  exact RetB.mk rfl HB
 ·
  rw [if_neg (by decide)]
  have B0 := Blk.new w 96 cs
  have HB0 : Below w.heap.size w (w.alloc (.cells cs.toArray 96)) := (Below.refl _ _).alloc (Nat.le_refl _) _
  go_enter func324, ntmps324
  go_wp2_with (refine at_op (.load 96 (.tmp 3)) rfl ?_; go_must (refine wpList_ldB rfl _ _ rfl w.heap.size 0 rfl B0 33 (by omega) _ underlying96 rfl rrInfo cs (tk0 (by omega)) ?_))
  go_wp2_with fail
  refine (CK.out _ HB0).mono ?_
  rintro _ w2 ⟨rfl, b2⟩
  have B := B0.below b2 B0.lt
  have HB := below_then HB0 HB0.size b2
  clear B0 HB0 b2 CK
  have u1 := B.cell_ 1 L1
  have u2 := B.cell_ 2 L2
  go_wp2_with fail
  refine (K.out _).mono ?_
  rintro _ w3 ⟨rfl, rfl⟩
  have CV := conv_at (o := 5) B ip 16 (fun j hj => LI.out j hj)
  rw [h16] at CV
  clear K u1 u2 L1 L2 LI
  go_wp2_with fail
  go_ret2
  exact RetB.mk rfl HB
theorem put2_any (n : Int) (w : World) : Calls prog 320 #[.int .i64 2, .int .i64 n] w (RetB (.string (bs (putB 2 n))) w) := put_any 2 n w
theorem put4_any (n : Int) (w : World) : Calls prog 320 #[.int .i64 4, .int .i64 n] w (RetB (.string (bs (putB 4 n))) w) := put_any 4 n w
set_option maxHeartbeats 2000000 in
theorem rput_srv (cs : List Value) (r : RR) (at_ : Int) (p : Option Addr) (w : World) (h : RRis w cs r) (hc : checkR r = 0) (hk : kindR r.ty r.cl = 33) :
  Calls prog 324 #[.agg cs.toArray, .int .i64 at_, .pointer p] w (RetB (.tuple #[.string (bs (putB 2 r.pri ++ putB 2 r.we ++ putB 2 r.po ++ putZ r.tg)), .int .i64 (checkN r.tg)]) w) := by
 have CK := Hh (fun w' (b : Below w.heap.size w w') => rcheck_any cs r w' (h.below b))
 have hl : cs.length = 33 := by obtain ⟨_, _, _, _, _, _, rfl, hr, _⟩ := h; exact rrC_len hr
 have L1 : cs[1]? = some (.int .i64 r.ty) := by obtain ⟨_, _, _, _, _, _, rfl, hr, _⟩ := h; rfl
 have L2 : cs[2]? = some (.int .i64 r.cl) := by obtain ⟨_, _, _, _, _, _, rfl, hr, _⟩ := h; rfl
 obtain ⟨At, ct, L22, hR⟩ : ∃ At ct, cs[22]? = some (.slice At r.tg.length ct) ∧ NmR w At ct r.tg := by
  obtain ⟨_, _, At, ct, _, _, rfl, hr, _, hR, _⟩ := h; exact ⟨At, ct, rrC_22 hr, hR⟩
 have L24 : cs[24]? = some (.int .i64 r.pri) := by obtain ⟨_, _, _, _, _, _, rfl, hr, _⟩ := h; exact rrC_24 hr
 have L25 : cs[25]? = some (.int .i64 r.we) := by obtain ⟨_, _, _, _, _, _, rfl, hr, _⟩ := h; exact rrC_25 hr
 have L26 : cs[26]? = some (.int .i64 r.po) := by obtain ⟨_, _, _, _, _, _, rfl, hr, _⟩ := h; exact rrC_26 hr
 have K := Hh (fun w => kindOf_any r.ty r.cl w)
 have hz : (putZ r.tg).length ≤ 255 := by
  unfold putZ encZ
  split
  ·
   next h0 => have := (checkN_ok h0).2; simp [encN_length]; omega
  ·
   simp
 rw [hc] at CK
 rw [hk] at K
 clear h hc hk
 have PT := Hh (fun w' (b : Below w.heap.size w w') => putNil_any At ct r.tg at_ w' (hR.below b))
 generalize putZ r.tg = z at *
 generalize checkN r.tg = e at *
 generalize r.tg.length = n at *
 generalize r.ty = ty at *
 generalize r.cl = cl at *
 clear hR
 have P1 := Hh (fun w => put2_any r.pri w)
 have P2 := Hh (fun w => put2_any r.we w)
 have P3 := Hh (fun w => put2_any r.po w)
 have l1 := putB_length 2 r.pri
 have l2 := putB_length 2 r.we
 have l3 := putB_length 2 r.po
 generalize putB 2 r.pri = s1 at *
 generalize putB 2 r.we = s2 at *
 generalize putB 2 r.po = s3 at *
 generalize r.pri = pri at *
 generalize r.we = we at *
 generalize r.po = po at *
 have B0 := Blk.new w 96 cs
 have HB0 : Below w.heap.size w (w.alloc (.cells cs.toArray 96)) := (Below.refl _ _).alloc (Nat.le_refl _) _
 go_enter func324, ntmps324
 go_wp2_with (refine at_op (.load 96 (.tmp 3)) rfl ?_; go_must (refine wpList_ldB rfl _ _ rfl w.heap.size 0 rfl B0 33 (by omega) _ underlying96 rfl rrInfo cs (tk0 (by omega)) ?_))
 go_wp2_with fail
 refine (CK.out _ HB0).mono ?_
 rintro _ w2 ⟨rfl, b2⟩
 have B := B0.below b2 B0.lt
 have HB := below_then HB0 HB0.size b2
 clear B0 HB0 b2 CK
 have u1 := B.cell_ 1 L1
 have u2 := B.cell_ 2 L2
 go_wp2_with fail
 refine (K.out _).mono ?_
 rintro _ w3 ⟨rfl, rfl⟩
 have u22 := B.cell_ 22 L22
 clear K u1 u2 L1 L2 L22
 go_wp2_with fail
 refine (PT.out _ HB).mono ?_
 rintro _ w3 ⟨rfl, hB3⟩
 have B3 := B.below hB3 B.lt
 have HB3 := below_then HB HB.size hB3
 clear B HB hB3 PT
 go_wp2_with fail
 refine wp_region_old (by kernel_rfl) (by kernel_rfl) ?_
 (refine wpQuiet_val (v := (.pointer (some ⟨w.heap.size, 24, none⟩))) rfl (fun W hW => by first | (go_simp; done) | (go_simp; omega)) ?_; simp only [Act.put, lsA, lsB, lsC])
 refine wpQuiet_ld 3 (.tmp 54) rfl ⟨w.heap.size, 24, none⟩ rfl rfl (fun W hW => run_load1 underlying3 rfl ((B3.below hW B3.lt).cell_ 24 L24)) ?_
 simp only [Act.put, lsA, lsB, lsC]
 refine wpQuiet_call 320 #[.int .i64 2, .int .i64 pri] rfl (fun W => by go_simp) (fun W hW => RetB.old hW (P1.out W)) ?_
 simp only [Act.put, lsA, lsB, lsC]
 (refine wpQuiet_val (v := (.pointer (some ⟨w.heap.size, 25, none⟩))) rfl (fun W hW => by first | (go_simp; done) | (go_simp; omega)) ?_; simp only [Act.put, lsA, lsB, lsC])
 refine wpQuiet_ld 3 (.tmp 57) rfl ⟨w.heap.size, 25, none⟩ rfl rfl (fun W hW => run_load1 underlying3 rfl ((B3.below hW B3.lt).cell_ 25 L25)) ?_
 simp only [Act.put, lsA, lsB, lsC]
 refine wpQuiet_call 320 #[.int .i64 2, .int .i64 we] rfl (fun W => by go_simp) (fun W hW => RetB.old hW (P2.out W)) ?_
 simp only [Act.put, lsA, lsB, lsC]
 (refine wpQuiet_val (v := (.string (bs (s1 ++ s2)))) rfl (fun W hW => by first | (go_simp; done) | (go_simp; omega)) ?_; simp only [Act.put, lsA, lsB, lsC])
 (refine wpQuiet_val (v := (.pointer (some ⟨w.heap.size, 26, none⟩))) rfl (fun W hW => by first | (go_simp; done) | (go_simp; omega)) ?_; simp only [Act.put, lsA, lsB, lsC])
 refine wpQuiet_ld 3 (.tmp 61) rfl ⟨w.heap.size, 26, none⟩ rfl rfl (fun W hW => run_load1 underlying3 rfl ((B3.below hW B3.lt).cell_ 26 L26)) ?_
 simp only [Act.put, lsA, lsB, lsC]
 refine wpQuiet_call 320 #[.int .i64 2, .int .i64 po] rfl (fun W => by go_simp) (fun W hW => RetB.old hW (P3.out W)) ?_
 simp only [Act.put, lsA, lsB, lsC]
 (refine wpQuiet_val (v := (.string (bs (s1 ++ s2 ++ s3)))) rfl (fun W hW => by first | (go_simp; done) | (go_simp; omega)) ?_; simp only [Act.put, lsA, lsB, lsC])
 (refine wpQuiet_val (v := (.string (bs z))) rfl (fun W hW => by first | (go_simp; done) | (go_simp; omega)) ?_; simp only [Act.put, lsA, lsB, lsC])
 (refine wpQuiet_val (v := (.string (bs (s1 ++ s2 ++ s3 ++ z)))) rfl (fun W hW => by first | (go_simp; done) | (go_simp; omega)) ?_; simp only [Act.put, lsA, lsB, lsC])
 (refine wpQuiet_val (v := (.int .i64 e)) rfl (fun W hW => by first | (go_simp; done) | (go_simp; omega)) ?_; simp only [Act.put, lsA, lsB, lsC])
 (refine wpQuiet_val (v := (.string (bs (s1 ++ s2 ++ s3 ++ z)))) rfl (fun W hW => by first | (go_simp; done) | (go_simp; omega)) ?_; simp only [Act.put, lsA, lsB, lsC])
 (refine wpQuiet_val (v := (.int .i64 e)) rfl (fun W hW => by first | (go_simp; done) | (go_simp; omega)) ?_; simp only [Act.put, lsA, lsB, lsC])
 refine wpQuiet_nil ?_
 intro w4 hB4
 have HB4 := below_then HB3 HB3.size hB4
 clear B3 HB3 hB4
 go_wp2_with fail
 go_ret2
 exact RetB.mk rfl HB4
theorem pgo_len (T : Tab) (at_ : Int) : ∀ (n : List (List UInt8)) (pre : List UInt8), (pgo T at_ pre n).1.length ≤ pre.length + lsum n + 2
 | [], pre => by simp [pgo, lsum]
 | l :: n, pre => by
  cases h : look T (l :: n) with
  | some q => rw [pgo_some h]; simp [putB_length]
  | none =>
   rw [pgo_no h]
   have ih := pgo_len T at_ n (pre ++ encL l)
   rw [List.length_append, encL_length] at ih
   simp only [lsum]
   omega
theorem putSO_len (T : Option Tab) (at_ : Int) (n : List (List UInt8)) : (putSO T at_ n).length ≤ 300 := by
 cases T with
 | none =>
  unfold putSO putZ encZ
  dsimp only
  split
  ·
   next h => have := (checkN_ok h).2; simp [encN_length]; omega
  ·
   simp
 | some T =>
  unfold putSO putS
  dsimp only
  split
  ·
   next h => have := (checkN_ok h).2; have := pgo_len T at_ n []; simp at this; omega
  ·
   simp
set_option maxHeartbeats 2000000 in
theorem putSOA_any (lo : Nat) (cs : List Value) (r : RR) (at_ : Int) (p : Option Addr) (T : Option Tab) (w0 w : World) (h : RRis w0 cs r) (h0 : w0.heap.size ≤ lo) (hb0 : Below w0.heap.size w0 w) (hlo : lo ≤ w.heap.size) (hT : TabO lo w p T) (hf : fewO T 800000) (ha0 : 0 ≤ at_) (ha1 : at_ ≤ 9000000) (ht : checkN r.tg = 0) (hm : checkN r.ml = 0) :
  Calls prog 342 #[.agg cs.toArray, .int .i64 at_, .pointer p] w (PutO lo p (putSO T at_ r.tg ++ putSO (putTO T at_ r.tg) (at_ + (putSO T at_ r.tg).length) r.ml ++ r.nums.flatMap (putB 4)) 0 (putTO (putTO T at_ r.tg) (at_ + (putSO T at_ r.tg).length) r.ml) w) := by
 obtain ⟨An, cn, At, ct, Am, cm, hcs, hr, hN, hTg, hMl, hraw⟩ := h
 have hl : cs.length = 33 := by rw [hcs]; exact rrC_len hr
 have L22 : cs[22]? = some (.slice At r.tg.length ct) := by rw [hcs]; exact rrC_22 hr
 have L23 : cs[23]? = some (.slice Am r.ml.length cm) := by rw [hcs]; exact rrC_23 hr
 have LN : Hid ((cs.drop 27).take 5 = ints64 r.nums) := Hh (by rw [hcs]; exact rrC_nums hr)
 have hn5 := hr.2
 clear hcs hN hraw hr
 have s1l := putSO_len T at_ r.tg
 have s2l := putSO_len (putTO T at_ r.tg) (at_ + (putSO T at_ r.tg).length) r.ml
 have P1 := Hh (fun w' (b : Below w.heap.size w w') => putO_any lo p T At ct r.tg at_ w' (Nat.le_trans hlo b.size) (hT.below b) ((hTg.below hb0).below b) (fun T' h => Nat.le_trans (hf T' h) (by omega)))
 have P2 := Hh (fun w' (b : Below lo w w') (hlo' : lo ≤ w'.heap.size) (hT' : TabO lo w' p (putTO T at_ r.tg)) => putO_any lo p (putTO T at_ r.tg) Am cm r.ml (at_ + (putSO T at_ r.tg).length) w' hlo' hT' (hMl.below (hb0.trans (b.mono h0))) (fun T' h => Nat.le_trans ((hf.put at_ r.tg) T' h) (by omega)))
 rw [ht] at P1
 rw [hm] at P2
 have hB0 : Below w.heap.size w (w.alloc (.cells cs.toArray 96)) := (Below.refl _ _).alloc (Nat.le_refl _) _
 have hb := Blk.new w 96 cs
 have u22 := hb.cell_ 22 L22
 clear hT hf hTg hMl L22 ht hm hb0
 generalize putTO (putTO T at_ r.tg) (at_ + (putSO T at_ r.tg).length) r.ml = T2 at *
 generalize putSO (putTO T at_ r.tg) (at_ + (putSO T at_ r.tg).length) r.ml = s2 at *
 generalize putSO T at_ r.tg = s1 at *
 generalize putTO T at_ r.tg = T1 at *
 generalize r.tg.length = ntg at *
 generalize r.ml.length = nml at *
 generalize r.nums = nums at *
 obtain ⟨out, hout⟩ : ∃ out, out = s1 ++ s2 ++ nums.flatMap (putB 4) := ⟨_, rfl⟩
 rw [← hout]
 have HO := Hh hout
 clear hout
 go_enter func342, ntmps342
 go_wp2_with fail
 refine (P1.out _ hB0).mono ?_
 rintro _ w2 ⟨rfl, hT2, hB2⟩
 have B2 := hB2.blk hb
 have HB2 : Keep lo w w2 := (Keep.old hB0 hlo).trans hB2
 have hlo2 : lo ≤ w2.heap.size := Nat.le_trans hlo HB2.1.size
 have u23 := B2.cell_ 23 L23
 clear P1 u22 hB2 hb hB0 L23
 go_wp2_with fail
 refine (P2.out _ HB2.1 hlo2 hT2).mono ?_
 rintro _ w3 ⟨rfl, hT3, hB3⟩
 have B3 := hB3.blk B2
 have HB3 : Keep lo w w3 := HB2.trans hB3
 have hlo3 : lo ≤ w3.heap.size := Nat.le_trans hlo HB3.1.size
 clear P2 u23 hB3 hT2 B2 HB2 hlo2
 obtain ⟨n0, n1, n2, n3, n4, rfl⟩ : ∃ n0 n1 n2 n3 n4, nums = [n0, n1, n2, n3, n4] := by
  match nums, hn5 with
  | [a, b, c, d, e], _ => exact ⟨a, b, c, d, e, rfl⟩
 clear hn5
 have HLN := LN.out
 clear LN
 have l0 := putB_length 4 n0
 have l1 := putB_length 4 n1
 have l2 := putB_length 4 n2
 have l3 := putB_length 4 n3
 have l4 := putB_length 4 n4
 have Q0 := Hh (fun w => put4_any n0 w)
 have Q1 := Hh (fun w => put4_any n1 w)
 have Q2 := Hh (fun w => put4_any n2 w)
 have Q3 := Hh (fun w => put4_any n3 w)
 have Q4 := Hh (fun w => put4_any n4 w)
 have HO : Hid (out = s1 ++ s2 ++ (putB 4 n0 ++ (putB 4 n1 ++ (putB 4 n2 ++ (putB 4 n3 ++ putB 4 n4))))) := Hh (by rw [HO.out]; simp)
 generalize putB 4 n0 = q0 at *
 generalize putB 4 n1 = q1 at *
 generalize putB 4 n2 = q2 at *
 generalize putB 4 n3 = q3 at *
 generalize putB 4 n4 = q4 at *
 have HL := Hh HLN
 clear HLN
 go_wp2_with (refine at_op (.load 94 (.tmp 42)) rfl ?_; go_must (refine wpList_ldB rfl _ _ rfl w.heap.size 27 rfl B3 5 (by omega) _ underlying94 rfl numsInfo [.int .i64 n0, .int .i64 n1, .int .i64 n2, .int .i64 n3, .int .i64 n4] HL.out ?_))
 clear HL B3
 have I0 : ∀ w : World, (Instr.index 94 (.agg #[.int .i64 n0, .int .i64 n1, .int .i64 n2, .int .i64 n3, .int .i64 n4]) (.int .i64 0)).run prog w = .ok (.int .i64 n0) w := fun _ => by kernel_rfl
 have I1 : ∀ w : World, (Instr.index 94 (.agg #[.int .i64 n0, .int .i64 n1, .int .i64 n2, .int .i64 n3, .int .i64 n4]) (.int .i64 1)).run prog w = .ok (.int .i64 n1) w := fun _ => by kernel_rfl
 have I2 : ∀ w : World, (Instr.index 94 (.agg #[.int .i64 n0, .int .i64 n1, .int .i64 n2, .int .i64 n3, .int .i64 n4]) (.int .i64 2)).run prog w = .ok (.int .i64 n2) w := fun _ => by kernel_rfl
 have I3 : ∀ w : World, (Instr.index 94 (.agg #[.int .i64 n0, .int .i64 n1, .int .i64 n2, .int .i64 n3, .int .i64 n4]) (.int .i64 3)).run prog w = .ok (.int .i64 n3) w := fun _ => by kernel_rfl
 have I4 : ∀ w : World, (Instr.index 94 (.agg #[.int .i64 n0, .int .i64 n1, .int .i64 n2, .int .i64 n3, .int .i64 n4]) (.int .i64 4)).run prog w = .ok (.int .i64 n4) w := fun _ => by kernel_rfl
 refine wp_loop_rounds 6 ?_
 rw [rounds_succ]
 go_wp2_with fail
 refine (Q0.out _).mono ?_
 rintro _ w4 ⟨rfl, b4⟩
 have HB4 : Keep lo w w4 := HB3.trans (Keep.old b4 hlo3)
 have hT4 := hT3.below b4
 have hlo4 : lo ≤ w4.heap.size := Nat.le_trans hlo HB4.1.size
 clear Q0 I0 HB3 hT3 b4 hlo3
 go_wp2_with fail
 rw [rounds_succ]
 go_wp2_with fail
 refine (Q1.out _).mono ?_
 rintro _ w5 ⟨rfl, b5⟩
 have HB5 : Keep lo w w5 := HB4.trans (Keep.old b5 hlo4)
 have hT5 := hT4.below b5
 have hlo5 : lo ≤ w5.heap.size := Nat.le_trans hlo HB5.1.size
 clear Q1 I1 HB4 hT4 b5 hlo4
 go_wp2_with fail
 rw [rounds_succ]
 go_wp2_with fail
 refine (Q2.out _).mono ?_
 rintro _ w6 ⟨rfl, b6⟩
 have HB6 : Keep lo w w6 := HB5.trans (Keep.old b6 hlo5)
 have hT6 := hT5.below b6
 have hlo6 : lo ≤ w6.heap.size := Nat.le_trans hlo HB6.1.size
 clear Q2 I2 HB5 hT5 b6 hlo5
 go_wp2_with fail
 rw [rounds_succ]
 go_wp2_with fail
 refine (Q3.out _).mono ?_
 rintro _ w7 ⟨rfl, b7⟩
 have HB7 : Keep lo w w7 := HB6.trans (Keep.old b7 hlo6)
 have hT7 := hT6.below b7
 have hlo7 : lo ≤ w7.heap.size := Nat.le_trans hlo HB7.1.size
 clear Q3 I3 HB6 hT6 b7 hlo6
 go_wp2_with fail
 rw [rounds_succ]
 go_wp2_with fail
 refine (Q4.out _).mono ?_
 rintro _ w8 ⟨rfl, b8⟩
 have HB8 : Keep lo w w8 := HB7.trans (Keep.old b8 hlo7)
 have hT8 := hT7.below b8
 have hlo8 : lo ≤ w8.heap.size := Nat.le_trans hlo HB8.1.size
 clear Q4 I4 HB7 hT7 b8 hlo7
 go_wp2_with fail
 rw [rounds_succ]
 go_wp2_with fail
 go_ret2
 exact ⟨ret_str2 (by rw [HO.out]; simp), hT8, HB8⟩
set_option maxHeartbeats 1000000 in
theorem rput_soa (lo : Nat) (cs : List Value) (r : RR) (at_ : Int) (p : Option Addr) (T : Option Tab) (w0 w : World) (h : RRis w0 cs r) (h0 : w0.heap.size ≤ lo) (hb0 : Below w0.heap.size w0 w) (hlo : lo ≤ w.heap.size) (hT : TabO lo w p T) (hf : fewO T 800000) (ha0 : 0 ≤ at_) (ha1 : at_ ≤ 9000000) (hc : checkR r = 0) (hk : kindR r.ty r.cl = 6) :
  Calls prog 324 #[.agg cs.toArray, .int .i64 at_, .pointer p] w (PutO lo p (putSO T at_ r.tg ++ putSO (putTO T at_ r.tg) (at_ + (putSO T at_ r.tg).length) r.ml ++ r.nums.flatMap (putB 4)) 0 (putTO (putTO T at_ r.tg) (at_ + (putSO T at_ r.tg).length) r.ml) w) := by
 have hE := (hasE_ok hc).2
 have hE6 : hasE r = (if checkN r.tg ≠ 0 then checkN r.tg else if checkN r.ml ≠ 0 then checkN r.ml else if r.nums.all (inB 4294967295) then 0 else 4) := by unfold hasE; rw [hk]; rfl
 rw [hE6] at hE
 have ht : checkN r.tg = 0 := by
  by_cases h1 : checkN r.tg = 0
  ·
   exact h1
  ·
   rw [if_pos h1] at hE; exact hE
 have hm : checkN r.ml = 0 := by
  rw [if_neg (by simp [ht])] at hE
  by_cases h1 : checkN r.ml = 0
  ·
   exact h1
  ·
   rw [if_pos h1] at hE; exact hE
 have hw := h.below hb0
 have CK := Hh (fun w' (b : Below w.heap.size w w') => rcheck_any cs r w' (hw.below b))
 have hl : cs.length = 33 := by obtain ⟨_, _, _, _, _, _, rfl, hr, _⟩ := h; exact rrC_len hr
 have L1 : cs[1]? = some (.int .i64 r.ty) := by obtain ⟨_, _, _, _, _, _, rfl, hr, _⟩ := h; rfl
 have L2 : cs[2]? = some (.int .i64 r.cl) := by obtain ⟨_, _, _, _, _, _, rfl, hr, _⟩ := h; rfl
 have K := Hh (fun w => kindOf_any r.ty r.cl w)
 rw [hc] at CK
 rw [hk] at K
 have PT := Hh (fun w' (b : Below w.heap.size w w') => putSOA_any lo cs r at_ p T w0 w' h h0 (below_then hb0 hb0.size b) (Nat.le_trans hlo b.size) (hT.below b) hf ha0 ha1 ht hm)
 clear h hc hk hE hE6 hT hf ht hm hw hb0
 generalize putSO T at_ r.tg ++ putSO (putTO T at_ r.tg) (at_ + (putSO T at_ r.tg).length) r.ml ++ r.nums.flatMap (putB 4) = out at *
 generalize putTO (putTO T at_ r.tg) (at_ + (putSO T at_ r.tg).length) r.ml = T2 at *
 generalize r.ty = ty at *
 generalize r.cl = cl at *
 have B0 := Blk.new w 96 cs
 have HB0 : Below w.heap.size w (w.alloc (.cells cs.toArray 96)) := (Below.refl _ _).alloc (Nat.le_refl _) _
 go_enter func324, ntmps324
 go_wp2_with (refine at_op (.load 96 (.tmp 3)) rfl ?_; go_must (refine wpList_ldB rfl _ _ rfl w.heap.size 0 rfl B0 33 (by omega) _ underlying96 rfl rrInfo cs (tk0 (by omega)) ?_))
 go_wp2_with fail
 refine (CK.out _ HB0).mono ?_
 rintro _ w2 ⟨rfl, b2⟩
 have B := B0.below b2 B0.lt
 have HB := below_then HB0 HB0.size b2
 clear B0 HB0 b2 CK
 have u1 := B.cell_ 1 L1
 have u2 := B.cell_ 2 L2
 go_wp2_with fail
 refine (K.out _).mono ?_
 rintro _ w3 ⟨rfl, rfl⟩
 clear K u1 u2 L1 L2
 go_wp2_with (refine at_op (.load 96 (.tmp 3)) rfl ?_; go_must (refine wpList_ldB rfl _ _ rfl w.heap.size 0 rfl B 33 (by omega) _ underlying96 rfl rrInfo cs (tk0 (by omega)) ?_))
 go_wp2_with fail
 refine (PT.out _ HB).mono ?_
 rintro _ w4 ⟨rfl, hT4, hB4⟩
 clear PT
 go_wp2_with fail
 go_ret2
 exact ⟨rfl, hT4, (Keep.old HB hlo).trans hB4⟩
def rputS (T : Option Tab) (at_ : Int) (r : RR) : List UInt8 := if checkR r = 0 then dataR T at_ r else []
def rputT (T : Option Tab) (at_ : Int) (r : RR) : Option Tab := if checkR r = 0 then tabR T at_ r else T
theorem rput_any (lo : Nat) (cs : List Value) (r : RR) (at_ : Int) (p : Option Addr) (T : Option Tab) (w0 w : World) (h : RRis w0 cs r) (h0 : w0.heap.size ≤ lo) (hb0 : Below w0.heap.size w0 w) (hlo : lo ≤ w.heap.size) (hT : TabO lo w p T) (hf : fewO T 800000) (ha0 : 0 ≤ at_) (ha1 : at_ ≤ 9000000) :
  Calls prog 324 #[.agg cs.toArray, .int .i64 at_, .pointer p] w (PutO lo p (rputS T at_ r) (checkR r) (rputT T at_ r) w) := by
 have hw := h.below hb0
 by_cases hc : checkR r = 0
 ·
  unfold rputS rputT
  rw [if_pos hc, if_pos hc, hc]
  have hE := (hasE_ok hc).2
  rcases kindR_cases r.ty r.cl with hk | hk | hk | hk | hk | hk
  ·
   refine (rput_addr cs r at_ p w hw hc (.inl hk)).mono ?_
   rintro _ w' ⟨rfl, hB⟩
   have e1 : dataR T at_ r = (if kindR r.ty r.cl = 1 then r.ad.ip.take 4 else r.ad.ip) := by unfold dataR; rw [hk]; rfl
   have e2 : tabR T at_ r = T := by unfold tabR; rw [hk]; rfl
   rw [e1, e2]
   exact ⟨rfl, hT.below hB, Keep.old hB hlo⟩
  ·
   refine (rput_addr cs r at_ p w hw hc (.inr hk)).mono ?_
   rintro _ w' ⟨rfl, hB⟩
   have e1 : dataR T at_ r = (if kindR r.ty r.cl = 1 then r.ad.ip.take 4 else r.ad.ip) := by unfold dataR; rw [hk]; rfl
   have e2 : tabR T at_ r = T := by unfold tabR; rw [hk]; rfl
   rw [e1, e2]
   exact ⟨rfl, hT.below hB, Keep.old hB hlo⟩
  ·
   have e1 : dataR T at_ r = putSO T at_ r.tg := by unfold dataR; rcases hk with hk | hk <;> rw [hk] <;> rfl
   have e2 : tabR T at_ r = putTO T at_ r.tg := by unfold tabR; rcases hk with hk | hk <;> rw [hk] <;> rfl
   have e3 : checkN r.tg = 0 := by rw [← hE]; unfold hasE; rcases hk with hk | hk <;> rw [hk] <;> rfl
   rw [e1, e2]
   have := rput_name lo cs r at_ p T w hw hlo hT (fun T' h => Nat.le_trans (hf T' h) (by omega)) hc hk
   rwa [e3] at this
  ·
   refine (rput_srv cs r at_ p w hw hc hk).mono ?_
   rintro _ w' ⟨rfl, hB⟩
   have e1 : dataR T at_ r = putB 2 r.pri ++ putB 2 r.we ++ putB 2 r.po ++ putZ r.tg := by unfold dataR; rw [hk]; rfl
   have e2 : tabR T at_ r = T := by unfold tabR; rw [hk]; rfl
   have e3 : checkN r.tg = 0 := by
    have e4 : hasE r = (if [r.pri, r.we, r.po].all (inB 65535) = true then checkN r.tg else 4) := by unfold hasE; rw [hk]; rfl
    rw [e4] at hE
    split at hE
    ·
     exact hE
    ·
     cases hE
   rw [e1, e2, e3]
   exact ⟨rfl, hT.below hB, Keep.old hB hlo⟩
  ·
   have e1 : dataR T at_ r = putSO T at_ r.tg ++ putSO (putTO T at_ r.tg) (at_ + (putSO T at_ r.tg).length) r.ml ++ r.nums.flatMap (putB 4) := by unfold dataR; rw [hk]; rfl
   have e2 : tabR T at_ r = putTO (putTO T at_ r.tg) (at_ + (putSO T at_ r.tg).length) r.ml := by unfold tabR; rw [hk]; rfl
   rw [e1, e2]
   exact rput_soa lo cs r at_ p T w0 w h h0 hb0 hlo hT hf ha0 ha1 hc hk
  ·
   refine (rput_raw cs r at_ p w hw hc hk).mono ?_
   rintro _ w' ⟨rfl, hB⟩
   have e1 : dataR T at_ r = r.raw := by unfold dataR; rw [hk]; rfl
   have e2 : tabR T at_ r = T := by unfold tabR; rw [hk]; rfl
   rw [e1, e2]
   exact ⟨rfl, hT.below hB, Keep.old hB hlo⟩
 ·
  unfold rputS rputT
  rw [if_neg hc, if_neg hc]
  refine (rput_bad cs r at_ p w hw hc).mono ?_
  rintro _ w' ⟨rfl, hB⟩
  exact ⟨rfl, hT.below hB, Keep.old hB hlo⟩
end Go.Proofs.YteimenplbanooaaGreatDoor
