/-
  Layer 9 (addr), as far as records want it: addresses as cells; '=='; Check, and the reference's.
-/
import Derived.Test.YteimenplbanooaaGreatDoorGBq
namespace Go.Proofs.YteimenplbanooaaGreatDoor
open _root_.Go.Proofs.Tryz
open Go.RowKit
set_option maxRecDepth 100000
set_option linter.unusedVariables false
structure Adr where
 fam : Int
 ip : List UInt8
 zone : Int
deriving DecidableEq
def Adr.cells (a : Adr) : List Value := .int .i64 a.fam :: (octs a.ip ++ [.int .i64 a.zone])
def Adr.zero : Adr := ⟨0, List.replicate 16 0, 0⟩
theorem Adr.cells_len (a : Adr) (h : a.ip.length = 16) : a.cells.length = 18 := by simp [Adr.cells, octs_length, h]
theorem octs_one (l : List UInt8) : ∀ v ∈ octs l, v.oneCell' = true := by
 intro v hv
 obtain ⟨b, _, rfl⟩ := List.mem_map.1 hv
 rfl
theorem Adr.cells_one (a : Adr) : ∀ v ∈ a.cells, v.oneCell' = true := by
 intro v hv
 rcases List.mem_cons.1 hv with rfl | hv
 ·
  rfl
 ·
  rcases List.mem_append.1 hv with hv | hv
  ·
   exact octs_one _ v hv
  ·
   rw [List.mem_singleton] at hv; subst hv; rfl
theorem size_u8 (w : World) : (sizeOf 5).run prog w = .ok 1 w := by kernel_rfl
theorem size_ip (w : World) : (sizeOf 22).run prog w = .ok 16 w := by kernel_rfl
theorem octs_map (l : List UInt8) : octs l = (l.map fun b => (b.toNat : Int)).map (Value.int .u8) := by simp [octs, List.map_map, Function.comp_def]
theorem toNat_inj_list : ∀ (a b : List UInt8), ((a.map fun x => (x.toNat : Int)) == (b.map fun x => (x.toNat : Int))) = decide (a = b)
 | [], [] => rfl
 | x :: a, y :: b => by
  have ih := toNat_inj_list a b
  simp only [List.map_cons, List.cons_beq_cons, ih, List.cons.injEq]
  have : ((x.toNat : Int) == (y.toNat : Int)) = decide (x = y) := by
   by_cases h : x = y
   ·
    subst h; simp
   ·
    have : ¬ x.toNat = y.toNat := fun e => h (UInt8.toNat_inj.1 e)
    simp [h]; omega
  rw [this]
  simp
 | [], _ :: _ => rfl
 | _ :: _, [] => rfl
theorem fields_adr : (prog.fieldsOf 24).toList = [{ name := "Family", type := 3, offset := 0, embedded := false, tag := "", pkgPath := "", byteOffset := 0 }, { name := "IP", type := 22, offset := 1, embedded := false, tag := "", pkgPath := "", byteOffset := 8 }, { name := "Zone", type := 3, offset := 17, embedded := false, tag := "", pkgPath := "", byteOffset := 24 }] := by
 unfold Program.fieldsOf; rw [underlying24]
theorem Adr.ip_part (a : Adr) (h : a.ip.length = 16) : (a.cells.toArray.extract 1 17) = (octs a.ip).toArray := by
 apply Array.toList_inj.1
 simp only [Adr.cells, List.extract_toArray, List.toList_toArray, List.extract_eq_take_drop, List.drop_succ_cons, List.drop_zero]
 exact List.take_left' (by rw [octs_length, h])
theorem Adr.zone_at (a : Adr) (h : a.ip.length = 16) : a.cells[17]? = some (.int .i64 a.zone) := by
 simp [Adr.cells, octs_length, h]
theorem run_eqA (a b : Adr) (ha : a.ip.length = 16) (hb : b.ip.length = 16) (w : World) : (Op.equalIn 10000 24 (.agg a.cells.toArray) (.agg b.cells.toArray)).run prog w = .ok (decide (a = b)) w := by
 rw [run_equalIn_struct w 9999 24 _ _ (by unfold Program.fieldsOf; rw [underlying24]) (by kernel_rfl), fields_adr]
 have p0 : ∀ (x : Adr) (w : World), (part 3 x.cells.toArray 0).run prog w = .ok (.int .i64 x.fam) w := fun x w => by simp [part, isAgg, run_underlying underlying3, Adr.cells]
 have p1 : ∀ (x : Adr), x.ip.length = 16 → ∀ (w : World), (part 22 x.cells.toArray 1).run prog w = .ok (.agg (octs x.ip).toArray) w := fun x hx w => by
  simp only [part, isAgg, Sem.run_bind, run_underlying underlying22, Result.andThen_ok, Sem.run_pure, if_true, size_ip, Sem.run_ite]
  rw [show 1 + 16 = 17 from rfl, x.ip_part hx]
 have p2 : ∀ (x : Adr), x.ip.length = 16 → ∀ (w : World), (part 3 x.cells.toArray 17).run prog w = .ok (.int .i64 x.zone) w := fun x hx w => by simp [part, isAgg, run_underlying underlying3, x.zone_at hx]
 have e0 : (Op.equalIn 9999 3 (.int .i64 a.fam) (.int .i64 b.fam)).run prog w = .ok (a.fam == b.fam) w := run_equalIn_int w 9998 _ _ _ _ _ underlying3
 have e1 : (Op.equalIn 9999 22 (.agg (octs a.ip).toArray) (.agg (octs b.ip).toArray)).run prog w = .ok (decide (a.ip = b.ip)) w := by
  rw [octs_map, octs_map, run_equalIn_ints w 9997 _ 5 16 .u8 underlying22 underlying5 size_u8 _ _ (by simpa using ha) (by simpa using hb), toNat_inj_list]
 have e2 : (Op.equalIn 9999 3 (.int .i64 a.zone) (.int .i64 b.zone)).run prog w = .ok (a.zone == b.zone) w := run_equalIn_int w 9998 _ _ _ _ _ underlying3
 simp only [Op.eqFields, ne_eq, String.reduceEq, not_false_eq_true, if_true, Sem.run_bind, p0, p1 a ha, p1 b hb, p2 a ha, p2 b hb, e0, e1, e2, Result.andThen_ok, Sem.run_ite, Sem.run_pure]
 obtain ⟨fa, ia, za⟩ := a
 obtain ⟨fb, ib, zb⟩ := b
 simp only [Adr.mk.injEq]
 by_cases h1 : fa = fb <;> by_cases h2 : ia = ib <;> by_cases h3 : za = zb <;> simp [h1, h2, h3]
def Adr.check (a : Adr) : Int := if a.fam = 4 then (if a.ip.drop 4 = List.replicate 12 0 ∧ a.zone = 0 then 0 else 5) else if a.fam = 6 then (if a.zone < 0 ∨ 2147483647 < a.zone then 4 else 0) else 10
theorem len16 {α : Type} {l : List α} (h : l.length = 16) : ∃ x0 x1 x2 x3 x4 x5 x6 x7 x8 x9 x10 x11 x12 x13 x14 x15, l = [x0, x1, x2, x3, x4, x5, x6, x7, x8, x9, x10, x11, x12, x13, x14, x15] := by
 match l, h with
 | [x0, x1, x2, x3, x4, x5, x6, x7, x8, x9, x10, x11, x12, x13, x14, x15], _ => exact ⟨x0, x1, x2, x3, x4, x5, x6, x7, x8, x9, x10, x11, x12, x13, x14, x15, rfl⟩
def quadA (a b c d : UInt8) : Adr := ⟨4, [a, b, c, d, 0, 0, 0, 0, 0, 0, 0, 0, 0, 0, 0, 0], 0⟩
def adrZ : List Value := Adr.zero.cells
theorem adrInfo : (prog.info? 24).map (·.size) = some 18 := by kernel_rfl
theorem Blk.newA (w : World) (k : Nat) (hk : k = w.heap.size) : Blk (w.alloc (.cells #[.int .i64 0, .int .u8 0, .int .u8 0, .int .u8 0, .int .u8 0, .int .u8 0, .int .u8 0, .int .u8 0, .int .u8 0, .int .u8 0, .int .u8 0, .int .u8 0, .int .u8 0, .int .u8 0, .int .u8 0, .int .u8 0, .int .u8 0, .int .i64 0] 24)) k 24 adrZ := Blk.new' w _ adrZ k hk
theorem quadOf_any (a b c d : UInt8) (w : World) : Calls prog 56 #[.int .u8 (a.toNat : Int), .int .u8 (b.toNat : Int), .int .u8 (c.toNat : Int), .int .u8 (d.toNat : Int)] w (RetB (.agg (quadA a b c d).cells.toArray) w) := by
 go_enter func56, ntmps56
 go_wp2_with (refine at_op (.store 24 (.tmp 8) (.tmp 14)) rfl ?_; go_must (refine wpList_stB rfl _ _ _ rfl w.heap.size 0 rfl (quadA a b c d).cells rfl (Blk.newA w _ rfl) (Nat.le_refl 18) adrInfo (Adr.cells_one _) ?_))
 intro w1 hb1 hg1 _
 go_wp2_with fail
 have hb2 : Blk w1 w.heap.size 24 (quadA a b c d).cells := by simpa [adrZ, Adr.zero, Adr.cells, quadA, octs] using hb1
 refine ret_cell Tryz.results56 w.heap.size rfl hb2 _ underlying24 rfl adrInfo rfl ?_
 exact RetB.mk rfl (below_grown ((Below.refl _ _).alloc (Nat.le_refl _) _) hg1 (by simp) (Nat.le_refl _))
theorem Adr.cell_ip (x : Adr) (hx : x.ip.length = 16) (i : Nat) (hi : i < 16) : x.cells[i + 1]? = some (.int .u8 ((x.ip.getD i 0).toNat : Int)) := by
 simp only [Adr.cells, List.getElem?_cons_succ]
 rw [List.getElem?_append_left (by rw [octs_length, hx]; exact hi), octs_get x.ip i (by omega)]
 simp [List.getD, List.getElem?_eq_getElem (show i < x.ip.length by omega)]
theorem at_of {L : List Value} {i : Nat} {v : Value} (h : L[i]? = some v) : ∀ hi : i < L.length, L[i]'hi = v := fun hi => by rw [List.getElem?_eq_getElem hi] at h; exact Option.some.inj h
theorem first_any (x : Adr) (hx : x.ip.length = 16) (w : World) : Calls prog 68 #[.agg x.cells.toArray] w (RetB (.agg (quadA (x.ip.getD 0 0) (x.ip.getD 1 0) (x.ip.getD 2 0) (x.ip.getD 3 0)).cells.toArray) w) := by
 have hcl := x.cells_len hx
 have g1 := at_of (x.cell_ip hx 0 (by decide))
 have g2 := at_of (x.cell_ip hx 1 (by decide))
 have g3 := at_of (x.cell_ip hx 2 (by decide))
 have g4 := at_of (x.cell_ip hx 3 (by decide))
 generalize x.ip.getD 0 0 = a at *
 generalize x.ip.getD 1 0 = b at *
 generalize x.ip.getD 2 0 = c at *
 generalize x.ip.getD 3 0 = d at *
 generalize x.cells = L at *
 go_enter func68, ntmps68
 go_wp2_with fail
 refine (quadOf_any a b c d _).mono ?_
 rintro _ w1 ⟨rfl, b1⟩
 have hz : Blk w1 (w.heap.size + 1) 24 adrZ := (Blk.newA _ _ (by simp)).below b1 (by simp)
 have hB : Below w.heap.size w w1 := below_then (((Below.refl _ _).alloc (Nat.le_refl _) _).alloc (by simp) _) (by simp; omega) b1
 clear b1
 go_wp2_with (refine at_op (.store 24 (.tmp 2) (.tmp 15)) rfl ?_; go_must (refine wpList_stB rfl _ _ _ rfl (w.heap.size + 1) 0 rfl (quadA a b c d).cells rfl hz (Nat.le_refl 18) adrInfo (Adr.cells_one _) ?_))
 intro w2 hb2 hg2 _
 go_wp2_with fail
 have hb3 : Blk w2 (w.heap.size + 1) 24 (quadA a b c d).cells := by simpa [adrZ, Adr.zero, Adr.cells, quadA, octs] using hb2
 refine ret_cell Tryz.results68 (w.heap.size + 1) rfl hb3 _ underlying24 rfl adrInfo rfl ?_
 exact RetB.mk rfl (below_grown hB hg2 hB.size (by simp))
theorem quadA_eq (x : Adr) (hx : x.ip.length = 16) (hf : x.fam = 4) : (x = quadA (x.ip.getD 0 0) (x.ip.getD 1 0) (x.ip.getD 2 0) (x.ip.getD 3 0)) ↔ (x.ip.drop 4 = List.replicate 12 0 ∧ x.zone = 0) := by
 obtain ⟨fam, ip, zone⟩ := x
 simp only at hx hf
 obtain ⟨x0, x1, x2, x3, x4, x5, x6, x7, x8, x9, x10, x11, x12, x13, x14, x15, rfl⟩ := len16 hx
 subst hf
 simp [quadA, List.replicate]
set_option maxHeartbeats 1000000 in
theorem addrCheck4 (x : Adr) (hx : x.ip.length = 16) (hf : x.fam = 4) (w : World) : Calls prog 21 #[.agg x.cells.toArray] w (RetB (.int .i64 x.check) w) := by
 have hcl := x.cells_len hx
 have g0 : ∀ hi : 0 < x.cells.length, x.cells[0]'hi = .int .i64 4 := at_of (by rw [← hf]; rfl)
 have F := first_any x hx
 have E := run_eqA x (quadA (x.ip.getD 0 0) (x.ip.getD 1 0) (x.ip.getD 2 0) (x.ip.getD 3 0)) hx rfl
 have Q := quadA_eq x hx hf
 have R : x.check = if x.ip.drop 4 = List.replicate 12 0 ∧ x.zone = 0 then 0 else 5 := by unfold Adr.check; rw [if_pos hf]
 generalize quadA (x.ip.getD 0 0) (x.ip.getD 1 0) (x.ip.getD 2 0) (x.ip.getD 3 0) = q at *
 have hLD : ∀ W, Below (w.alloc (.cells x.cells.toArray 24)).heap.size (w.alloc (.cells x.cells.toArray 24)) W → (Instr.loadAt 24 (.pointer (some ⟨w.heap.size, 0, none⟩))).run prog W = .ok (.agg x.cells.toArray) W := fun W hW =>
  ((Blk.new w 24 x.cells).below hW (by simp)).loads 24 0 18 (by omega) _ underlying24 rfl adrInfo x.cells (tk0 (by omega))
 have HLD := Hh hLD
 have FF := Hh F
 have QQ := Hh Q
 have RR := Hh R
 clear F hLD Q R hf
 generalize x.cells = L at *
 generalize q.cells = L2 at *
 go_enter func21, ntmps21
 go_wp2_with fail
 refine wp_region_old (by kernel_rfl) (by kernel_rfl) ?_
 refine wpQuiet_ld 24 (.tmp 1) rfl ⟨w.heap.size, 0, none⟩ rfl rfl HLD.out ?_
 simp only [Act.put, lsA, lsB, lsC]
 refine wpQuiet_ld 24 (.tmp 1) rfl ⟨w.heap.size, 0, none⟩ rfl rfl HLD.out ?_
 simp only [Act.put, lsA, lsB, lsC]
 refine wpQuiet_call 68 #[.agg L.toArray] rfl (fun W => by go_simp) (fun W hW => RetB.old hW (FF.out W)) ?_
 simp only [Act.put, lsA, lsB, lsC]
 refine wpQuiet_val (v := .bool (!decide (x = q))) rfl (fun W hW => by go_simp) ?_
 simp only [Act.put, lsA, lsB, lsC]
 refine wpQuiet_nil ?_
 intro w2 hB2
 have hB : Below w.heap.size w w2 := below_then ((Below.refl _ _).alloc (Nat.le_refl _) _) (by simp) hB2
 clear hB2 HLD FF E
 by_cases he : x = q
 ·
  have hr : x.check = 0 := by rw [RR.out, if_pos (QQ.out.1 he)]
  have HR := Hh hr
  rw [decide_eq_true he]
  clear he hr
  go_wp2_with fail
  go_ret
  exact RetB.mk (ret_int HR.out.symm) hB
 ·
  have hr : x.check = 5 := by rw [RR.out, if_neg (fun h => he (QQ.out.2 h))]
  have HR := Hh hr
  rw [decide_eq_false he]
  clear he hr
  go_wp2_with fail
  go_ret
  exact RetB.mk (ret_int HR.out.symm) hB
theorem addrCheckN (x : Adr) (hx : x.ip.length = 16) (hf : x.fam ≠ 4) (w : World) : Calls prog 21 #[.agg x.cells.toArray] w (RetB (.int .i64 x.check) w) := by
 have hcl := x.cells_len hx
 have g0 : ∀ hi : 0 < x.cells.length, x.cells[0]'hi = .int .i64 x.fam := at_of rfl
 have g17 : ∀ hi : 17 < x.cells.length, x.cells[17]'hi = .int .i64 x.zone := at_of (x.zone_at hx)
 have hf4 : (x.fam == 4) = false := by simpa using hf
 by_cases h6 : x.fam = 6
 ·
  have h6' : (x.fam == 6) = true := by simpa using h6
  by_cases hz : x.zone < 0
  ·
   have hr : x.check = 4 := by unfold Adr.check; rw [if_neg hf, if_pos h6, if_pos (.inl hz)]
   have HR := Hh hr
   have d1 : decide (x.zone < 0) = true := decide_eq_true hz
   generalize x.zone = zn at *
   generalize x.fam = fm at *
   generalize x.cells = L at *
   clear hf h6 hr
   go_enter func21, ntmps21
   go_wp2_with fail
   go_ret
   exact RetB.mk (ret_int HR.out.symm) ((Below.refl _ _).alloc (Nat.le_refl _) _)
  ·
   by_cases hz2 : 2147483647 < x.zone
   ·
    have hr : x.check = 4 := by unfold Adr.check; rw [if_neg hf, if_pos h6, if_pos (.inr hz2)]
    have HR := Hh hr
    have d1 : decide (x.zone < 0) = false := decide_eq_false hz
    have d2 : decide (2147483647 < x.zone) = true := decide_eq_true hz2
    generalize x.zone = zn at *
    generalize x.fam = fm at *
    generalize x.cells = L at *
    clear hf h6 hr
    go_enter func21, ntmps21
    go_wp2_with fail
    go_ret
    exact RetB.mk (ret_int HR.out.symm) ((Below.refl _ _).alloc (Nat.le_refl _) _)
   ·
    have hr : x.check = 0 := by unfold Adr.check; rw [if_neg hf, if_pos h6, if_neg (by omega)]
    have HR := Hh hr
    have d1 : decide (x.zone < 0) = false := decide_eq_false hz
    have d2 : decide (2147483647 < x.zone) = false := decide_eq_false hz2
    generalize x.zone = zn at *
    generalize x.fam = fm at *
    generalize x.cells = L at *
    clear hf h6 hr
    go_enter func21, ntmps21
    go_wp2_with fail
    go_ret
    exact RetB.mk (ret_int HR.out.symm) ((Below.refl _ _).alloc (Nat.le_refl _) _)
 ·
  have h6' : (x.fam == 6) = false := by simpa using h6
  have hr : x.check = 10 := by unfold Adr.check; rw [if_neg hf, if_neg h6]
  have HR := Hh hr
  generalize x.fam = fm at *
  generalize x.cells = L at *
  clear hf h6 hr
  go_enter func21, ntmps21
  go_wp2_with fail
  go_ret
  exact RetB.mk (ret_int HR.out.symm) ((Below.refl _ _).alloc (Nat.le_refl _) _)
theorem addrCheck_any (x : Adr) (hx : x.ip.length = 16) (w : World) : Calls prog 21 #[.agg x.cells.toArray] w (RetB (.int .i64 x.check) w) := by
 by_cases h : x.fam = 4
 ·
  exact addrCheck4 x hx h w
 ·
  exact addrCheckN x hx h w
theorem drop4_bad (ip : List UInt8) (hx : ip.length = 16) (k : Nat) (h4 : 4 ≤ k) (hk : k < 16) (h : ip.getD k 0 ≠ 0) : ip.drop 4 ≠ List.replicate 12 0 := by
 intro e
 have := congrArg (fun l => l[k - 4]?) e
 simp only [List.getElem?_drop] at this
 rw [show 4 + (k - 4) = k by omega, List.getElem?_eq_getElem (by omega)] at this
 have h2 : (List.replicate 12 (0 : UInt8))[k - 4]? = some 0 := by rw [List.getElem?_replicate]; simp; omega
 rw [h2] at this
 apply h
 simp [List.getD, List.getElem?_eq_getElem (show k < ip.length by omega)]
 exact Option.some.inj this
theorem drop4_good (ip : List UInt8) (hx : ip.length = 16) (h : ∀ k, 4 ≤ k → k < 16 → ip.getD k 0 = 0) : ip.drop 4 = List.replicate 12 0 := by
 obtain ⟨x0, x1, x2, x3, x4, x5, x6, x7, x8, x9, x10, x11, x12, x13, x14, x15, rfl⟩ := len16 hx
 have h4 := h 4 (by decide) (by decide)
 have h5 := h 5 (by decide) (by decide)
 have h6 := h 6 (by decide) (by decide)
 have h7 := h 7 (by decide) (by decide)
 have h8 := h 8 (by decide) (by decide)
 have h9 := h 9 (by decide) (by decide)
 have h10 := h 10 (by decide) (by decide)
 have h11 := h 11 (by decide) (by decide)
 have h12 := h 12 (by decide) (by decide)
 have h13 := h 13 (by decide) (by decide)
 have h14 := h 14 (by decide) (by decide)
 have h15 := h 15 (by decide) (by decide)
 simp only [List.getD_cons_succ, List.getD_cons_zero] at *
 subst h4 h5 h6 h7 h8 h9 h10 h11 h12 h13 h14 h15
 rfl
set_option maxHeartbeats 1000000 in
theorem refCheck09_4 (x : Adr) (hx : x.ip.length = 16) (hf : x.fam = 4) (w : World) : Calls prog 6 #[.agg x.cells.toArray] w (RetB (.int .i64 x.check) w) := by
 have hcl := x.cells_len hx
 have g0 : ∀ hi : 0 < x.cells.length, x.cells[0]'hi = .int .i64 4 := at_of (by rw [← hf]; rfl)
 have g17 : ∀ hi : 17 < x.cells.length, x.cells[17]'hi = .int .i64 x.zone := at_of (x.zone_at hx)
 have gc : ∀ k, k < 16 → (w.alloc (.cells x.cells.toArray 24)).cell? ⟨w.heap.size, 1 + k, none⟩ = some (.int .u8 ((x.ip.getD k 0).toNat : Int)) := fun k hk => by
  rw [Nat.add_comm]; exact (Blk.new w 24 x.cells).cell_ (k + 1) (x.cell_ip hx k hk)
 have GC := Hh gc
 have R : x.check = if x.ip.drop 4 = List.replicate 12 0 ∧ x.zone = 0 then 0 else 5 := by unfold Adr.check; rw [if_pos hf]
 have RR := Hh R
 have HX := Hh hx
 clear gc R hf hx
 generalize x.cells = L at *
 go_enter func6, ntmps6
 go_wp2_with fail
 go_loop [3] (fun i => ∃ k : Nat, 4 ≤ k ∧ k ≤ 16 ∧ i = .int .i64 k ∧ Hid (∀ j, 4 ≤ j → j < k → x.ip.getD j 0 = 0)) (fun i => 16 - (intOf i).toNat)
 case atStart => exact ⟨4, by omega, by omega, rfl, Hh (fun j h1 h2 => by omega)⟩
 case round =>
  obtain ⟨k, h4, hk, rfl, H⟩ := hrel
  by_cases hlt : k < 16
  ·
   have hlt' : (k : Int) < 16 := by omega
   have c1 := GC.out k hlt
   by_cases hz : x.ip.getD k 0 = 0
   ·
    rw [hz] at c1
    have HZ := Hh hz
    clear hz
    have c2 : (w.alloc (.cells L.toArray 24)).cell? ⟨w.heap.size, 1 + k, none⟩ = some (.int .u8 0) := c1
    clear c1
    go_wp2_with fail
    go_round
    case rel => exact ⟨k + 1, by omega, by omega, by go_num, Hh (fun j h1 h2 => by
     by_cases e : j = k
     ·
      subst e; exact HZ.out
     ·
      exact H.out j h1 (by omega))⟩
    case measure => simp [intOf]; omega
   ·
    have hb := drop4_bad x.ip HX.out k h4 hlt hz
    have hr : x.check = 5 := by rw [RR.out, if_neg (fun h => hb h.1)]
    have HR := Hh hr
    have hn : (x.ip.getD k 0).toNat ≠ 0 := fun e => hz (UInt8.toNat_inj.1 (by simpa using e))
    obtain ⟨u, hu⟩ : ∃ u, u = (x.ip.getD k 0).toNat := ⟨_, rfl⟩
    rw [← hu] at c1 hn
    have hn2 : ((u : Int) != 0) = true := by simpa using hn
    clear hz hb hr hu hn
    go_wp2_with fail
    go_ret
    exact RetB.mk (ret_int HR.out.symm) ((Below.refl _ _).alloc (Nat.le_refl _) _)
  ·
   have hlt' : ¬ (k : Int) < 16 := by omega
   have hg := drop4_good x.ip HX.out (fun j h1 h2 => H.out j h1 (by omega))
   by_cases hz : x.zone = 0
   ·
    have hr : x.check = 0 := by rw [RR.out, if_pos ⟨hg, hz⟩]
    have HR := Hh hr
    rw [hz] at g17
    clear hr hg hz
    go_wp2_with fail
    go_ret
    exact RetB.mk (ret_int HR.out.symm) ((Below.refl _ _).alloc (Nat.le_refl _) _)
   ·
    have hr : x.check = 5 := by rw [RR.out, if_neg (fun h => hz h.2)]
    have HR := Hh hr
    have hz2 : (x.zone != 0) = true := by simpa using hz
    generalize x.zone = zn at *
    clear hr hg hz
    go_wp2_with fail
    go_ret
    exact RetB.mk (ret_int HR.out.symm) ((Below.refl _ _).alloc (Nat.le_refl _) _)
theorem refCheck09_N (x : Adr) (hx : x.ip.length = 16) (hf : x.fam ≠ 4) (w : World) : Calls prog 6 #[.agg x.cells.toArray] w (RetB (.int .i64 x.check) w) := by
 have hcl := x.cells_len hx
 have g0 : ∀ hi : 0 < x.cells.length, x.cells[0]'hi = .int .i64 x.fam := at_of rfl
 have g17 : ∀ hi : 17 < x.cells.length, x.cells[17]'hi = .int .i64 x.zone := at_of (x.zone_at hx)
 have hf4 : (x.fam == 4) = false := by simpa using hf
 have hf4n : (x.fam != 4) = true := by simpa using hf
 by_cases h6 : x.fam = 6
 ·
  have h6' : (x.fam != 6) = false := by simpa using h6
  by_cases hz : x.zone < 0
  ·
   have hr : x.check = 4 := by unfold Adr.check; rw [if_neg hf, if_pos h6, if_pos (.inl hz)]
   have HR := Hh hr
   have d1 : decide (x.zone < 0) = true := decide_eq_true hz
   generalize x.zone = zn at *
   generalize x.fam = fm at *
   generalize x.cells = L at *
   clear hf h6 hr
   go_enter func6, ntmps6
   go_wp2_with fail
   go_ret
   exact RetB.mk (ret_int HR.out.symm) ((Below.refl _ _).alloc (Nat.le_refl _) _)
  ·
   by_cases hz2 : 2147483647 < x.zone
   ·
    have hr : x.check = 4 := by unfold Adr.check; rw [if_neg hf, if_pos h6, if_pos (.inr hz2)]
    have HR := Hh hr
    have d1 : decide (x.zone < 0) = false := decide_eq_false hz
    have d2 : decide (2147483647 < x.zone) = true := decide_eq_true hz2
    generalize x.zone = zn at *
    generalize x.fam = fm at *
    generalize x.cells = L at *
    clear hf h6 hr
    go_enter func6, ntmps6
    go_wp2_with fail
    go_ret
    exact RetB.mk (ret_int HR.out.symm) ((Below.refl _ _).alloc (Nat.le_refl _) _)
   ·
    have hr : x.check = 0 := by unfold Adr.check; rw [if_neg hf, if_pos h6, if_neg (by omega)]
    have HR := Hh hr
    have d1 : decide (x.zone < 0) = false := decide_eq_false hz
    have d2 : decide (2147483647 < x.zone) = false := decide_eq_false hz2
    generalize x.zone = zn at *
    generalize x.fam = fm at *
    generalize x.cells = L at *
    clear hf h6 hr
    go_enter func6, ntmps6
    go_wp2_with fail
    go_ret
    exact RetB.mk (ret_int HR.out.symm) ((Below.refl _ _).alloc (Nat.le_refl _) _)
 ·
  have h6' : (x.fam != 6) = true := by simpa using h6
  have hr : x.check = 10 := by unfold Adr.check; rw [if_neg hf, if_neg h6]
  have HR := Hh hr
  generalize x.fam = fm at *
  generalize x.cells = L at *
  clear hf h6 hr
  go_enter func6, ntmps6
  go_wp2_with fail
  go_ret
  exact RetB.mk (ret_int HR.out.symm) ((Below.refl _ _).alloc (Nat.le_refl _) _)
theorem refCheck09_any (x : Adr) (hx : x.ip.length = 16) (w : World) : Calls prog 6 #[.agg x.cells.toArray] w (RetB (.int .i64 x.check) w) := by
 by_cases h : x.fam = 4
 ·
  exact refCheck09_4 x hx h w
 ·
  exact refCheck09_N x hx h w
end Go.Proofs.YteimenplbanooaaGreatDoor
