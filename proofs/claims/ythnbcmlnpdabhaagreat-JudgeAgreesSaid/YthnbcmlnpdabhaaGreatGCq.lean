/-
  Layer 9 (addr), as far as records want it: addresses as cells; '=='; Check, and the reference's.
-/
import Derived.Test.YthnbcmlnpdabhaaGreatGBq
namespace Go.Proofs.YthnbcmlnpdabhaaGreat
open _root_.Go.Proofs.Tryz
open Go.RowKit
set_option maxRecDepth 100000
set_option linter.unusedVariables false
structure oi where
 fam : Int
 ip : List UInt8
 zone : Int
deriving DecidableEq
def oi.cells (a : oi) : List Value := .int .i64 a.fam :: (oM a.ip ++ [.int .i64 a.zone])
def oi.zero : oi := ⟨0, List.replicate 16 0, 0⟩
theorem oi.nV (a : oi) (h : a.ip.length = 16) : a.cells.length = 18 := by simp [oi.cells, oK, h]
theorem Oo (l : List UInt8) : ∀ v ∈ oM l, v.oneCell' = true := by
 intro v hv;obtain ⟨b, _, rfl⟩ := List.mem_map.1 hv;rfl
theorem oi.qb (a : oi) : ∀ v ∈ a.cells, v.oneCell' = true := by
 intro v hv;rcases List.mem_cons.1 hv with rfl | hv
 ·rfl
 ·
  rcases List.mem_append.1 hv with hv | hv
  ·exact Oo _ v hv
  ·rw [List.mem_singleton] at hv; subst hv; rfl
theorem Ku (w : World) : (sizeOf 5).run prog w = .ok 1 w := by kernel_rfl
theorem RQ (w : World) : (sizeOf 22).run prog w = .ok 16 w := by kernel_rfl
theorem xM (l : List UInt8) : oM l = (l.map fun b => (b.toNat : Int)).map (Value.int .u8) := by simp [oM, List.map_map, Function.comp_def]
theorem tS : ∀ (a b : List UInt8), ((a.map fun x => (x.toNat : Int)) == (b.map fun x => (x.toNat : Int))) = decide (a = b)
 | [], [] => rfl
 | x :: a, y :: b => by
  have ih := tS a b;simp only [List.map_cons, List.cons_beq_cons, ih, List.cons.injEq];have : ((x.toNat : Int) == (y.toNat : Int)) = decide (x = y) := by
   by_cases h : x = y
   ·subst h; simp
   ·
    have : ¬ x.toNat = y.toNat := fun e => h (UInt8.toNat_inj.1 e)
    simp [h]; omega
  rw [this];simp
 | [], _ :: _ => rfl
 | _ :: _, [] => rfl
theorem zK : (prog.fieldsOf 24).toList = [{ name := "Family", type := 3, offset := 0, embedded := false, tag := "", pkgPath := "", byteOffset := 0 }, { name := "IP", type := 22, offset := 1, embedded := false, tag := "", pkgPath := "", byteOffset := 8 }, { name := "Zone", type := 3, offset := 17, embedded := false, tag := "", pkgPath := "", byteOffset := 24 }] := by
 unfold Program.fieldsOf; rw [underlying24]
theorem oi.RS (a : oi) (h : a.ip.length = 16) : (a.cells.toArray.extract 1 17) = (oM a.ip).toArray := by
 apply Array.toList_inj.1;simp only [oi.cells, List.extract_toArray, List.toList_toArray, List.extract_eq_take_drop, List.drop_succ_cons, List.drop_zero];exact List.take_left' (by rw [oK, h])
theorem oi.zi (a : oi) (h : a.ip.length = 16) : a.cells[17]? = some (.int .i64 a.zone) := by
 simp [oi.cells, oK, h]
theorem zj (a b : oi) (ha : a.ip.length = 16) (hb : b.ip.length = 16) (w : World) : (Op.equalIn 10000 24 (.agg a.cells.toArray) (.agg b.cells.toArray)).run prog w = .ok (decide (a = b)) w := by
 rw [run_equalIn_struct w 9999 24 _ _ aB (by kernel_rfl), zK];have p0 : ∀ (x : oi) (w : World), (part 3 x.cells.toArray 0).run prog w = .ok (.int .i64 x.fam) w := gQ;have p1 : ∀ (x : oi), x.ip.length = 16 -> ∀ (w : World), (part 22 x.cells.toArray 1).run prog w = .ok (.agg (oM x.ip).toArray) w := fun x hx w => by
  exact kX
 have p2 : ∀ (x : oi), x.ip.length = 16 -> ∀ (w : World), (part 3 x.cells.toArray 17).run prog w = .ok (.int .i64 x.zone) w := gC;have e0 : (Op.equalIn 9999 3 (.int .i64 a.fam) (.int .i64 b.fam)).run prog w = .ok (a.fam == b.fam) w := eW;have e1 : (Op.equalIn 9999 22 (.agg (oM a.ip).toArray) (.agg (oM b.ip).toArray)).run prog w = .ok (decide (a.ip = b.ip)) w := by rw [xM, xM, rz w 9997 _ 5 16 .u8 underlying22 underlying5 Ku _ _ (by simpa using ha) aC, tS]
 have e2 : (Op.equalIn 9999 3 (.int .i64 a.zone) (.int .i64 b.zone)).run prog w = .ok (a.zone == b.zone) w := eW;exact ki
def oi.check (a : oi) : Int := if a.fam = 4 then (if a.ip.drop 4 = List.replicate 12 0 /\ a.zone = 0 then 0 else 5) else if a.fam = 6 then (if a.zone < 0 \/ 2147483647 < a.zone then 4 else 0) else 10
theorem Vx {α : Type} {l : List α} (h : l.length = 16) : ∃ x0 x1 x2 x3 x4 x5 x6 x7 x8 x9 x10 x11 x12 x13 x14 x15, l = [x0, x1, x2, x3, x4, x5, x6, x7, x8, x9, x10, x11, x12, x13, x14, x15] := by
 match l, h with
 | [x0, x1, x2, x3, x4, x5, x6, x7, x8, x9, x10, x11, x12, x13, x14, x15], _ => exact ⟨x0, x1, x2, x3, x4, x5, x6, x7, x8, x9, x10, x11, x12, x13, x14, x15, rfl⟩
def rC (a b c d : UInt8) : oi := ⟨4, [a, b, c, d, 0, 0, 0, 0, 0, 0, 0, 0, 0, 0, 0, 0], 0⟩
def Ot : List Value := oi.zero.cells
theorem pt : (prog.info? 24).map (·.size) = some 18 := by kernel_rfl
theorem nj.Vy (w : World) (k : Nat) (hk : k = w.heap.size) : nj (w.alloc (.cells #[.int .i64 0, .int .u8 0, .int .u8 0, .int .u8 0, .int .u8 0, .int .u8 0, .int .u8 0, .int .u8 0, .int .u8 0, .int .u8 0, .int .u8 0, .int .u8 0, .int .u8 0, .int .u8 0, .int .u8 0, .int .u8 0, .int .u8 0, .int .i64 0] 24)) k 24 Ot := nj.ph w _ Ot k hk
theorem zL (a b c d : UInt8) (w : World) : Calls prog 129 #[.int .u8 (a.toNat : Int), .int .u8 (b.toNat : Int), .int .u8 (c.toNat : Int), .int .u8 (d.toNat : Int)] w (nM (.agg (rC a b c d).cells.toArray) w) := by
 go_enter func129, ntmps129;go_wp2_with (refine nh (.store 24 (.tmp 8) (.tmp 14)) rfl (ab rfl w.heap.size 0 (rC a b c d).cells (nj.Vy w _ rfl) (Nat.le_refl 18) pt (oi.qb _) ?_));intro w1 hb1 hg1 _;go_wp2_with fail;have hb2 : nj w1 w.heap.size 24 (rC a b c d).cells := by simpa [Ot, oi.zero, oi.cells, rC, oM] using hb1
 refine oP Tryz.results129 w.heap.size rfl hb2 _ underlying24 rfl pt rfl ?_;exact nM.mk rfl (ng ((Below.refl _ _).alloc (Nat.le_refl _) _) hg1 ag (Nat.le_refl _))
theorem oi.zk (x : oi) (hx : x.ip.length = 16) (i : Nat) (hi : i < 16) : x.cells[i + 1]? = some (.int .u8 ((x.ip.getD i 0).toNat : Int)) := by
 simp only [oi.cells, List.getElem?_cons_succ];rw [List.getElem?_append_left (by rw [oK, hx]; exact hi), uB x.ip i ak];simp [List.getD, List.getElem?_eq_getElem (show i < x.ip.length by omega)]
theorem qz {L : List Value} {i : Nat} {v : Value} (h : L[i]? = some v) : ∀ hi : i < L.length, L[i]'hi = v := fun hi => by rw [List.getElem?_eq_getElem hi] at h; exact Option.some.inj h
theorem L9 (x : oi) (hx : x.ip.length = 16) (w : World) : Calls prog 220 #[.agg x.cells.toArray] w (nM (.agg (rC (x.ip.getD 0 0) (x.ip.getD 1 0) (x.ip.getD 2 0) (x.ip.getD 3 0)).cells.toArray) w) := by
 have hcl := x.nV hx;have g1 := qz (x.zk hx 0 aj);have g2 := qz (x.zk hx 1 aj);have g3 := qz (x.zk hx 2 aj);have g4 := qz (x.zk hx 3 aj);generalize x.ip.getD 0 0 = a at *;generalize x.ip.getD 1 0 = b at *;generalize x.ip.getD 2 0 = c at *;generalize x.ip.getD 3 0 = d at *;generalize x.cells = L at *;go_enter func220, ntmps220;go_wp2_with fail;refine (zL a b c d _).mono ?_;rintro _ w1 ⟨rfl, b1⟩;have hz : nj w1 (w.heap.size + 1) 24 Ot := (nj.Vy _ _ ag).below b1 ag;have hB : Below w.heap.size w w1 := nc (((Below.refl _ _).alloc (Nat.le_refl _) _).alloc ag _) al b1;clear b1;go_wp2_with (refine nh (.store 24 (.tmp 2) (.tmp 15)) rfl (ab rfl (w.heap.size + 1) 0 (rC a b c d).cells hz (Nat.le_refl 18) pt (oi.qb _) ?_));intro w2 hb2 hg2 _;go_wp2_with fail;have hb3 : nj w2 (w.heap.size + 1) 24 (rC a b c d).cells := by simpa [Ot, oi.zero, oi.cells, rC, oM] using hb2
 refine oP Tryz.results220 (w.heap.size + 1) rfl hb3 _ underlying24 rfl pt rfl ?_;exact nM.mk rfl (ng hB hg2 hB.size ag)
theorem Ov (x : oi) (hx : x.ip.length = 16) (hf : x.fam = 4) : (x = rC (x.ip.getD 0 0) (x.ip.getD 1 0) (x.ip.getD 2 0) (x.ip.getD 3 0)) ↔ (x.ip.drop 4 = List.replicate 12 0 /\ x.zone = 0) := by
 obtain ⟨fam, ip, zone⟩ := x;simp only at hx hf;obtain ⟨x0, x1, x2, x3, x4, x5, x6, x7, x8, x9, x10, x11, x12, x13, x14, x15, rfl⟩ := Vx hx;subst hf;simp [rC, List.replicate]
set_option maxHeartbeats 1000000 in
theorem Jc (x : oi) (hx : x.ip.length = 16) (hf : x.fam = 4) (w : World) : Calls prog 183 #[.agg x.cells.toArray] w (nM (.int .i64 x.check) w) := by
 have hcl := x.nV hx;have g0 : ∀ hi : 0 < x.cells.length, x.cells[0]'hi = .int .i64 4 := qz (by rw [<- hf]; rfl);have F := L9 x hx;have E := zj x (rC (x.ip.getD 0 0) (x.ip.getD 1 0) (x.ip.getD 2 0) (x.ip.getD 3 0)) hx rfl;have Q := Ov x hx hf;have R : x.check = if x.ip.drop 4 = List.replicate 12 0 /\ x.zone = 0 then 0 else 5 := by unfold oi.check; rw [if_pos hf]
 generalize rC (x.ip.getD 0 0) (x.ip.getD 1 0) (x.ip.getD 2 0) (x.ip.getD 3 0) = q at *;have hLD : ∀ W, Below (w.alloc (.cells x.cells.toArray 24)).heap.size (w.alloc (.cells x.cells.toArray 24)) W -> (Instr.loadAt 24 (.pointer (some ⟨w.heap.size, 0, none⟩))).run prog W = .ok (.agg x.cells.toArray) W := fun W hW => ((nj.new w 24 x.cells).below hW ag).pF 24 0 18 ak _ underlying24 rfl pt x.cells (qj ak)
 have HLD := Hh hLD;have FF := Hh F;have QQ := Hh Q;have RR := Hh R;clear F hLD Q R hf;generalize x.cells = L at *;generalize q.cells = L2 at *;go_enter func183, ntmps183;go_wp2_with fail;refine rH (by kernel_rfl) (by kernel_rfl) ?_;refine pI 24 (.tmp 1) rfl ⟨w.heap.size, 0, none⟩ rfl rfl HLD.out ?_;simp only [Act.put, nB, nC, nD];refine pI 24 (.tmp 1) rfl ⟨w.heap.size, 0, none⟩ rfl rfl HLD.out ?_;simp only [Act.put, nB, nC, nD];refine rA 220 #[.agg L.toArray] rfl (fun W => by go_simp) (fun W hW => nM.xK hW (FF.out W)) ?_;simp only [Act.put, nB, nC, nD];refine nS (v := .bool (!decide (x = q))) rfl (fun W hW => by go_simp) ?_;simp only [Act.put, nB, nC, nD];refine wpQuiet_nil ?_;intro w2 hB2;have hB : Below w.heap.size w w2 := nc ((Below.refl _ _).alloc (Nat.le_refl _) _) ag hB2;clear hB2 HLD FF E;by_cases he : x = q
 ·
  have hr : x.check = 0 := by rw [RR.out, if_pos (QQ.out.1 he)]
  have HR := Hh hr;rw [decide_eq_true he];exact mN
 ·
  have hr : x.check = 5 := by rw [RR.out, if_neg (fun h => he (QQ.out.2 h))]
  have HR := Hh hr;rw [decide_eq_false he];exact mN
theorem Jd (x : oi) (hx : x.ip.length = 16) (hf : x.fam ≠ 4) (w : World) : Calls prog 183 #[.agg x.cells.toArray] w (nM (.int .i64 x.check) w) := by
 have hcl := x.nV hx;have g0 : ∀ hi : 0 < x.cells.length, x.cells[0]'hi = .int .i64 x.fam := qz rfl;have g17 : ∀ hi : 17 < x.cells.length, x.cells[17]'hi = .int .i64 x.zone := qz (x.zi hx);have hf4 : (x.fam == 4) = false := by simpa using hf
 by_cases h6 : x.fam = 6
 ·
  have h6' : (x.fam == 6) = true := jw;by_cases hz : x.zone < 0
  ·
   have hr : x.check = 4 := by unfold oi.check; rw [if_neg hf, if_pos h6, if_pos (.inl hz)]
   have HR := Hh hr;have d1 : decide (x.zone < 0) = true := decide_eq_true hz;generalize x.zone = zn at *;exact jV
  ·
   by_cases hz2 : 2147483647 < x.zone
   ·
    have hr : x.check = 4 := by unfold oi.check; rw [if_neg hf, if_pos h6, if_pos (.inr hz2)]
    have HR := Hh hr;have d1 : decide (x.zone < 0) = false := decide_eq_false hz;have d2 : decide (2147483647 < x.zone) = true := decide_eq_true hz2;generalize x.zone = zn at *;exact jV
   ·
    have hr : x.check = 0 := by unfold oi.check; rw [if_neg hf, if_pos h6, if_neg ak]
    have HR := Hh hr;have d1 : decide (x.zone < 0) = false := decide_eq_false hz;have d2 : decide (2147483647 < x.zone) = false := decide_eq_false hz2;generalize x.zone = zn at *;exact jV
 ·
  have h6' : (x.fam == 6) = false := jw;have hr : x.check = 10 := by unfold oi.check; rw [if_neg hf, if_neg h6]
  have HR := Hh hr;exact jV
theorem uq (x : oi) (hx : x.ip.length = 16) (w : World) : Calls prog 183 #[.agg x.cells.toArray] w (nM (.int .i64 x.check) w) := by
 by_cases h : x.fam = 4
 ·exact Jc x hx h w
 ·exact Jd x hx h w
end Go.Proofs.YthnbcmlnpdabhaaGreat
