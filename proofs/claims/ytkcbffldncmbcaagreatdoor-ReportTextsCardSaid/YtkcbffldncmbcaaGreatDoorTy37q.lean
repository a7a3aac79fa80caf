/-
  Layer 47: the law ReportTexts.
-/
import Derived.Test.YtkcbffldncmbcaaGreatDoorTy36q
namespace Go.Proofs.YtkcbffldncmbcaaGreatDoor
open _root_.Go.Proofs.Tryz
open Go.RowKit
set_option maxRecDepth 100000
set_option linter.unusedVariables false
set_option linter.unusedSimpArgs false
def OuW (cs : List Value) (o : Ou) : Prop := cs = ouC o ∧ o.to_.ip.length = 16 ∧ I64 o.to_.zone ∧ I64 o.port ∧ o.data.length ≤ 140737488355328
def dsum (l : List Ou) : Nat := (l.map fun o => o.data.length).sum
theorem dsum_take (l : List Ou) (k : Nat) (h : k < l.length) : dsum (l.take (k + 1)) = dsum (l.take k) + l[k].data.length := by
 unfold dsum
 rw [List.take_succ_eq_append_getElem h, List.map_append, List.sum_append]
 simp
theorem dsum_mem : ∀ (l : List Ou) (o : Ou), o ∈ l → o.data.length ≤ dsum l := by
 intro l
 induction l with
 | nil => intro o h; cases h
 | cons x l ih =>
  intro o h
  have e : dsum (x :: l) = x.data.length + dsum l := by simp [dsum]
  rcases List.mem_cons.1 h with rfl | h
  ·
   omega
  ·
   have := ih o h; omega
theorem dsum_len (M : Nat) : ∀ (l : List Ou), (∀ o ∈ l, o.data.length ≤ M) → dsum l ≤ M * l.length := by
 intro l
 induction l with
 | nil => intro _; simp [dsum]
 | cons x l ih =>
  intro h
  have e : dsum (x :: l) = x.data.length + dsum l := by simp [dsum]
  have h1 := h x (List.mem_cons_self ..)
  have h2 := ih (fun o ho => h o (List.mem_cons_of_mem _ ho))
  rw [e, List.length_cons, Nat.mul_succ]
  omega
theorem OuW.each {w : World} {A : Option Addr} {l : List Ou} (h : LIn w 21 OuW A l) : ∀ o ∈ l, o.data.length ≤ 140737488355328 := by
 intro x hx
 obtain ⟨i, hi, rfl⟩ := List.getElem_of_mem hx
 obtain ⟨ba, oa, _, _, xa⟩ := h (by omega)
 obtain ⟨cs, _, hc⟩ := xa i hi
 exact hc.2.2.2.2
theorem dsum_le {w : World} {A : Option Addr} {l : List Ou} (h : LIn w 21 OuW A l) (k : Nat) (hl : l.length ≤ 100) : dsum (l.take k) ≤ 14073748835532800 := by
 have h1 := dsum_len 140737488355328 (l.take k) (fun o ho => OuW.each h o (List.mem_of_mem_take ho))
 have h2 := List.length_take_le k l
 have h3 : 140737488355328 * (l.take k).length ≤ 140737488355328 * 100 := Nat.mul_le_mul_left _ (by rw [List.length_take]; omega)
 omega
theorem OuW.few {w : World} {A : Option Addr} {l : List Ou} (h : LIn w 21 OuW A l) (hd : dsum l ≤ 20000) : LIn w 21 OuB A l := by
 intro hp
 obtain ⟨b, off, h1, h2, h3⟩ := h hp
 refine ⟨b, off, h1, h2, fun i hi => ?_⟩
 obtain ⟨cs, h4, h5⟩ := h3 i hi
 exact ⟨cs, h4, h5.1, h5.2.1, h5.2.2.1, h5.2.2.2.1, Nat.le_trans (dsum_mem l _ (List.getElem_mem hi)) hd⟩
theorem ouInfo37 : (prog.info? 33).map (·.size) = some 21 := by kernel_rfl
theorem wpQuiet_not_eq {P : Program} {ops : Array Oper} {C : World → Prop} {Q : Act → Prop} {rest : List Oper} {o : Oper} {a : Act} (hw : Region.wanted o (yielded ops a.tmps) = false) : wpQuiet P ops C Q (o :: rest) a = wpQuiet P ops C Q rest (a.put o.dst undef) := by
 conv => lhs; unfold wpQuiet
 rw [if_neg (by rw [hw]; simp)]
theorem exec_gtr37 {o : Oper} {a : Act} (x : Operand) (ho : o.op = .binOp .gtr 3 x (.const (.int .i64 20000)) 3) {m : Int} (hx : a.eval x = .int .i64 m) (W : World) : (execOp a.eval o).run prog W = .ok (.value (.bool (decide (20000 < m)))) W := by
 have hy : a.eval (.const (.int .i64 20000)) = .int .i64 20000 := rfl
 unfold execOp
 simp only [ho, hx, hy]
 go_simp
theorem exec_eqlS {o : Oper} {a : Act} (x y : Operand) (ho : o.op = .binOp .eql 9 x y 9) {s : ByteArray} (hx : a.eval x = .string s) (hy : a.eval y = .string s) (W : World) : (execOp a.eval o).run prog W = .ok (.value (.bool true)) W := by
 unfold execOp
 simp only [ho, hx, hy]
 go_simp
set_option maxHeartbeats 4000000 in
theorem reportTexts_any (R : Rz) (Ai Ar A : Option Addr) (ci cr c : Nat) (l : List Ou) (w : World) (hT : Tb w) (hc : I64 R.code) (hI : LIn w 20 InfI Ai R.infos) (hR : RRsR w Ar R.recs) (hRb : ∀ r ∈ R.recs, RRb r) (hs : R.canon.length ≤ 140737488355328 ∧ R.host.length ≤ 140737488355328 ∧ R.serv.length ≤ 140737488355328) (hL : LIn w 21 OuW A l) :
  Calls prog 3 #[.agg (rzC (.slice Ai R.infos.length ci) (.slice Ar R.recs.length cr) R).toArray, .slice A l.length c] w (RetB (.bool true) w) := by
 have WK := Hh (fun V (hV : Below w.heap.size w V) => works47_any V (hT.below hV))
 have SM := Hh (fun V (hV : Below w.heap.size w V) => small26_any Ar cr R.recs V (RRsR.below hR hV))
 have TX := Hh (fun V (hV : Below w.heap.size w V) h1 h2 h3 h4 => stext_any R Ai Ar ci cr V (hT.below hV) hc (hI.mono hV (fun _ _ h => h)) h1 (RRsR.below hR hV) h2 h3 h4)
 have RX := Hh (fun V (hV : Below w.heap.size w V) h1 h2 h3 h4 => rtxt_any R Ai Ar ci cr V hc (hI.mono hV (fun _ _ h => h)) h1 (RRsR.below hR hV) h2 h3 h4)
 have TO := Hh (fun V => to47_any R.code Ai Ar R.infos.length R.recs.length ci cr (bs R.canon) (bs R.host) (bs R.serv) V)
 have SO := Hh (fun V (hV : Below w.heap.size w V) h1 h2 => souts_any l A c V (hT.below hV) (OuW.few (hL.mono hV (fun _ _ h => h)) h1) h2)
 have RO := Hh (fun V (hV : Below w.heap.size w V) h1 h2 => routs_any l A c V (OuW.few (hL.mono hV (fun _ _ h => h)) h1) h2)
 have HL := Hh hL
 have hs1 := hs.1
 have hs2 := hs.2.1
 have hs3 := hs.2.2
 have X0 := Blk.new w 25 (rzC (.slice Ai R.infos.length ci) (.slice Ar R.recs.length cr) R)
 have C0 : Below w.heap.size w (w.alloc (.cells (rzC (.slice Ai R.infos.length ci) (.slice Ar R.recs.length cr) R).toArray 25)) := (Below.refl _ _).alloc (Nat.le_refl _) _
 clear hT hI hR hL hs
 have HRb := Hh hRb
 clear hRb
 unfold rzC at X0 C0 TX RX ⊢
 obtain ⟨code, infos, canon, host, serv, recs⟩ := R
 simp only at *
 by_cases hbi : 100 < infos.length
 case pos =>
  have hbi' : (100 : Int) < infos.length := by omega
  go_enter func3, ntmps3
  go_wp2_with fail
  refine (WK.out _ C0).mono ?_
  rintro _ w2 ⟨rfl, b2⟩
  have HB := below_then C0 C0.size b2
  clear C0 X0 b2 WK TX RX TO SO RO SM
  go_wp2_with fail
  go_ret
  exact RetB.mk rfl HB
 have hbi' : ¬ (100 : Int) < infos.length := by omega
 go_enter func3, ntmps3
 go_wp2_with fail
 refine (SM.out _ C0).mono ?_
 rintro _ w2 ⟨b, rfl, hb, b2⟩
 have HB := below_then C0 C0.size b2
 have X2 := X0.below b2 X0.lt
 clear C0 X0 b2 SM
 cases b with
 | false =>
  clear hb
  go_wp2_with fail
  refine (WK.out _ HB).mono ?_
  rintro _ w3 ⟨rfl, b3⟩
  have HB3 := below_then HB HB.size b3
  clear HB X2 b3 WK TX RX TO SO RO
  go_wp2_with fail
  go_ret
  exact RetB.mk rfl HB3
 | true =>
 have hsm := hb rfl
 clear hb
 have a2 := X2.cell_ 2 (u := .string (bs canon)) rfl
 have a3 := X2.cell_ 3 (u := .string (bs host)) rfl
 have a4 := X2.cell_ 4 (u := .string (bs serv)) rfl
 by_cases hsum : 2000 < canon.length + host.length + serv.length
 case pos =>
  have hsum' : (2000 : Int) < canon.length + host.length + serv.length := by omega
  clear hsm
  go_wp2_with fail
  refine (WK.out _ HB).mono ?_
  rintro _ w3 ⟨rfl, b3⟩
  have HB3 := below_then HB HB.size b3
  clear HB X2 b3 WK TX RX TO SO RO a2 a3 a4
  go_wp2_with fail
  go_ret
  exact RetB.mk rfl HB3
 have hsum' : ¬ (2000 : Int) < canon.length + host.length + serv.length := by omega
 by_cases hlen : 100 < l.length
 case pos =>
  have hlen' : (100 : Int) < l.length := by omega
  clear hsm
  go_wp2_with fail
  refine (WK.out _ HB).mono ?_
  rintro _ w3 ⟨rfl, b3⟩
  have HB3 := below_then HB HB.size b3
  clear HB X2 b3 WK TX RX TO SO RO a2 a3 a4
  go_wp2_with fail
  go_ret
  exact RetB.mk rfl HB3
 have hlen' : ¬ (100 : Int) < l.length := by omega
 have HSM := Hh hsm
 have HD := Hh (fun k => dsum_le HL.out k (by omega))
 clear hsm
 go_wp2_with fail
 clear a2 a3 a4
 go_loopw [5, 6] (fun nv iv wr => ∃ k : Nat, k ≤ l.length ∧ iv = .int .i64 k ∧ nv = .int .i64 (dsum (l.take k) : Nat) ∧ Below w2.heap.size w2 wr) (fun _ iv _ => l.length - (intOf iv).toNat)
 case atStart => exact ⟨0, Nat.zero_le _, rfl, rfl, Below.refl _ _⟩
 obtain ⟨k, hk, rfl, rfl, hW⟩ := hrel
 by_cases hlt : k < l.length
 case pos =>
  have hlt' : (k : Int) < l.length := by omega
  obtain ⟨ba, oa, hA1, la1, xa⟩ := HL.out (by omega)
  subst hA1
  obtain ⟨cs, ra, hcs, hip, _, _, hdl⟩ := xa k hlt
  have la2 : ba < w2.heap.size := Nat.lt_of_lt_of_le la1 HB.size
  have E20 : cs[20]? = some (.string (bs l[k].data)) := by rw [hcs]; exact ouC_at hip 1
  have c20 : wr.cell? ⟨ba, oa + k * 21 + 20, none⟩ = some (.string (bs l[k].data)) := (hW.cell (p := ⟨ba, oa + k * 21 + 20, none⟩) la2).trans ((HB.cell (p := ⟨ba, oa + k * 21 + 20, none⟩) la1).trans (ra 20 _ E20))
  have HTk := Hh (dsum_take l k hlt)
  have IX := fun W => run_ixK (ba := ba) (oa := oa) (c := c) underlying26 ouInfo37 (by omega) hlt W
  have hd1 := HD.out k
  have hd2 := HD.out (k + 1)
  rw [dsum_take l k hlt] at hd2
  clear ra hcs hip E20 xa
  generalize dsum (l.take k) = n at *
  generalize l[k].data = dt at *
  go_wp2_with fail
  go_roundw
  case rel => exact ⟨k + 1, by omega, by go_num, (by rw [HTk.out]; go_num), hW⟩
  case measure => simp [intOf]; omega
 obtain rfl : k = l.length := by omega
 have hlt' : ¬ (l.length : Int) < l.length := by omega
 have HB4 := below_then HB HB.size hW
 have X4 := X2.below hW X2.lt
 have hd1 := HD.out l.length
 rw [List.take_of_length_le (Nat.le_refl _)] at hd1 ⊢
 clear hW X2 HB HD HL
 go_wp2_with fail
 by_cases hbig : 20000 < dsum l
 case pos =>
  have hbig' : (20000 : Int) < (dsum l : Nat) := by omega
  clear TX RX TO SO RO WK HSM HRb hd1 hs1 hs2 hs3 hsum hsum' hlen hlen' hbi hbi' hlt hlt' hk
  generalize dsum l = n at *
  refine wp_region_old (by kernel_rfl) (by kernel_rfl) ?_
  (refine wpQuiet_val (v := (.int .i64 n)) rfl (fun W hW => by kernel_rfl) ?_; simp only [Act.put, lsA, lsB, lsC])
  refine wpQuiet_val (v := .bool true) rfl (fun W hW => (exec_gtr37 (.tmp 51) rfl rfl W).trans (by rw [decide_eq_true hbig'])) ?_
  simp only [Act.put, lsA, lsB, lsC]
  (refine wpQuiet_val (v := (.bool true)) rfl (fun W hW => by kernel_rfl) ?_; simp only [Act.put, lsA, lsB, lsC])
  iterate 16 (rw [wpQuiet_not_eq]; simp only [Act.put, lsA, lsB, lsC])
  rotate_left
  iterate 16 (· exact (by kernel_rfl))
  (refine wpQuiet_val (v := (.bool true)) rfl (fun W hW => by kernel_rfl) ?_; simp only [Act.put, lsA, lsB, lsC])
  (refine wpQuiet_val (v := (.bool true)) rfl (fun W hW => by kernel_rfl) ?_; simp only [Act.put, lsA, lsB, lsC])
  refine wpQuiet_nil ?_
  intro w4 hB4
  have HB5 := below_then HB4 HB4.size hB4
  clear HB4 hB4 X4
  go_wp2_with fail
  go_ret
  exact RetB.mk rfl HB5
 have hbig' : ¬ (20000 : Int) < (dsum l : Nat) := by omega
 have hk4 : ∀ r ∈ recs, RRs4 r := fun r hr => ⟨HRb.out r hr, (HSM.out.2 r hr).1, (HSM.out.2 r hr).2⟩
 have h60 := HSM.out.1
 have h2000 : canon.length ≤ 2000 ∧ host.length ≤ 2000 ∧ serv.length ≤ 2000 := ⟨by omega, by omega, by omega⟩
 have TX2 := Hh (fun V hV => TX.out V hV (by omega) hk4 h60 h2000)
 have RX2 := Hh (fun V hV => RX.out V hV (by omega) hk4 h60 h2000)
 have SO2 := Hh (fun V hV => SO.out V hV (by omega) (by omega))
 have RO2 := Hh (fun V hV => RO.out V hV (by omega) (by omega))
 clear TX RX SO RO HSM HRb hk4 h60 h2000 hd1 hs1 hs2 hs3 hsum hsum' hlen hlen' hbi hbi' hlt hlt' hk
 generalize dsum l = n at *
 generalize rzT { code := code, infos := infos, canon := canon, host := host, serv := serv, recs := recs } = t1 at *
 generalize List.flatMap outT l = t2 at *
 refine wp_region_old (by kernel_rfl) (by kernel_rfl) ?_
 (refine wpQuiet_val (v := (.int .i64 n)) rfl (fun W hW => by kernel_rfl) ?_; simp only [Act.put, lsA, lsB, lsC])
 refine wpQuiet_val (v := .bool false) rfl (fun W hW => (exec_gtr37 (.tmp 51) rfl rfl W).trans (by rw [decide_eq_false hbig'])) ?_
 simp only [Act.put, lsA, lsB, lsC]
 (refine wpQuiet_val (v := (.bool false)) rfl (fun W hW => by kernel_rfl) ?_; simp only [Act.put, lsA, lsB, lsC])
 refine wpQuiet_call (v := .bool true) 5 #[] rfl (fun W => by kernel_rfl) (fun W hW => RetB.old hW (WK.out W (below_then HB4 HB4.size hW))) ?_
 simp only [Act.put, lsA, lsB, lsC]
 (refine wpQuiet_val (v := (.bool true)) rfl (fun W hW => by kernel_rfl) ?_; simp only [Act.put, lsA, lsB, lsC])
 refine wpQuiet_ld (v := .agg #[.int .i64 code, .slice Ai infos.length ci, .string (bs canon), .string (bs host), .string (bs serv), .slice Ar recs.length cr]) 25 (.tmp 2) rfl ⟨w.heap.size, 0, none⟩ rfl rfl (fun W hW => (X4.below hW X4.lt).loads 25 0 6 (Nat.le_refl 6) _ underlying25 rfl resInfo35 _ rfl) ?_
 simp only [Act.put, lsA, lsB, lsC]
 refine wpQuiet_call (v := .agg #[.int .i64 code, .slice Ai infos.length ci, .string (bs canon), .string (bs host), .string (bs serv), .slice Ar recs.length cr]) 7 #[.agg #[.int .i64 code, .slice Ai infos.length ci, .string (bs canon), .string (bs host), .string (bs serv), .slice Ar recs.length cr]] rfl (fun W => by kernel_rfl) (fun W hW => RetB.old hW (TO.out W)) ?_
 simp only [Act.put, lsA, lsB, lsC]
 refine wpQuiet_call (v := .string (bs t1)) 6 #[.agg #[.int .i64 code, .slice Ai infos.length ci, .string (bs canon), .string (bs host), .string (bs serv), .slice Ar recs.length cr]] rfl (fun W => by kernel_rfl) (fun W hW => RetB.old hW (TX2.out W (below_then HB4 HB4.size hW))) ?_
 simp only [Act.put, lsA, lsB, lsC]
 refine wpQuiet_ld (v := .agg #[.int .i64 code, .slice Ai infos.length ci, .string (bs canon), .string (bs host), .string (bs serv), .slice Ar recs.length cr]) 25 (.tmp 2) rfl ⟨w.heap.size, 0, none⟩ rfl rfl (fun W hW => (X4.below hW X4.lt).loads 25 0 6 (Nat.le_refl 6) _ underlying25 rfl resInfo35 _ rfl) ?_
 simp only [Act.put, lsA, lsB, lsC]
 refine wpQuiet_call (v := .string (bs t1)) 8 #[.agg #[.int .i64 code, .slice Ai infos.length ci, .string (bs canon), .string (bs host), .string (bs serv), .slice Ar recs.length cr]] rfl (fun W => by kernel_rfl) (fun W hW => RetB.old hW (RX2.out W (below_then HB4 HB4.size hW))) ?_
 simp only [Act.put, lsA, lsB, lsC]
 refine wpQuiet_val (v := .bool true) rfl (fun W hW => exec_eqlS (.tmp 58) (.tmp 60) rfl rfl rfl W) ?_
 simp only [Act.put, lsA, lsB, lsC]
 (refine wpQuiet_val (v := (.bool true)) rfl (fun W hW => by kernel_rfl) ?_; simp only [Act.put, lsA, lsB, lsC])
 (refine wpQuiet_val (v := (.bool true)) rfl (fun W hW => by kernel_rfl) ?_; simp only [Act.put, lsA, lsB, lsC])
 (refine wpQuiet_val (v := (.slice A l.length c)) rfl (fun W hW => by kernel_rfl) ?_; simp only [Act.put, lsA, lsB, lsC])
 refine wpQuiet_call (v := .string (bs t2)) 9 #[.slice A l.length c] rfl (fun W => by kernel_rfl) (fun W hW => RetB.old hW (SO2.out W (below_then HB4 HB4.size hW))) ?_
 simp only [Act.put, lsA, lsB, lsC]
 (refine wpQuiet_val (v := (.slice A l.length c)) rfl (fun W hW => by kernel_rfl) ?_; simp only [Act.put, lsA, lsB, lsC])
 refine wpQuiet_call (v := .string (bs t2)) 10 #[.slice A l.length c] rfl (fun W => by kernel_rfl) (fun W hW => RetB.old hW (RO2.out W (below_then HB4 HB4.size hW))) ?_
 simp only [Act.put, lsA, lsB, lsC]
 refine wpQuiet_val (v := .bool true) rfl (fun W hW => exec_eqlS (.tmp 65) (.tmp 67) rfl rfl rfl W) ?_
 simp only [Act.put, lsA, lsB, lsC]
 (refine wpQuiet_val (v := (.bool true)) rfl (fun W hW => by kernel_rfl) ?_; simp only [Act.put, lsA, lsB, lsC])
 (refine wpQuiet_val (v := (.bool true)) rfl (fun W hW => by kernel_rfl) ?_; simp only [Act.put, lsA, lsB, lsC])
 (refine wpQuiet_val (v := (.bool true)) rfl (fun W hW => by kernel_rfl) ?_; simp only [Act.put, lsA, lsB, lsC])
 refine wpQuiet_nil ?_
 intro w4 hB4
 have HB5 := below_then HB4 HB4.size hB4
 clear HB4 hB4 X4 TX2 RX2 SO2 RO2 TO WK
 go_wp2_with fail
 go_ret
 exact RetB.mk rfl HB5
end Go.Proofs.YtkcbffldncmbcaaGreatDoor
