/-
  Layer 21 (setup): Held, where a resolv alone is told.
-/
import Derived.Test.YteimenplbanooaaGreatDoorRAPq
import Derived.Test.YteimenplbanooaaGreatDoorRANq
namespace Go.Proofs.YteimenplbanooaaGreatDoor
open _root_.Go.Proofs.Tryz
open Go.RowKit
set_option maxRecDepth 100000
set_option linter.unusedVariables false
set_option linter.unusedSimpArgs false
structure Rs where
 sv : List Adr
 se : List (List (List UInt8))
 so : List (Adr × Int)
 nd : Int
 tmo : Int
 at_ : Int
 ro : Bool
 vc : Bool
 si : Bool
 ed : Bool
def rsC (v1 v2 v3 : Value) (r : Rs) : List Value := [v1, v2, v3, .int .i64 r.nd, .int .i64 r.tmo, .int .i64 r.at_, .bool r.ro, .bool r.vc, .bool r.si, .bool r.ed]
def heldR (r : Rs) : Rs := { r with sv := if leftP adOk r.sv 3 = [] then [quadA 127 0 0 1] else leftP adOk r.sv 3, se := leftP nmOk r.se 6, so := leftP pfOk r.so 10, nd := min (max r.nd 0) 15, tmo := min (max r.tmo 1) 30, at_ := min (max r.at_ 1) 5 }
def RsIs (w : World) (cs : List Value) (r : Rs) : Prop := ∃ A1 c1 A2 c2 A3 c3, cs = rsC (.slice A1 r.sv.length c1) (.slice A2 r.se.length c2) (.slice A3 r.so.length c3) r ∧ AdsR w A1 r.sv ∧ NmsR w A2 r.se ∧ PfsR w A3 r.so ∧ r.sv.length ≤ 17592186044416 ∧ r.se.length ≤ 17592186044416 ∧ r.so.length ≤ 17592186044416
def RsO (w0 w : World) (cs : List Value) (r : Rs) : Prop := ∃ v1 v2 v3, cs = rsC v1 v2 v3 r ∧ AdsO w 0 v1 r.sv ∧ NmlO w0 w 0 v2 r.se ∧ PfsO w 0 v3 r.so
def HeldRet (w0 : World) (r : Rs) (w : World) (e : Ending) (w' : World) : Prop := ∃ cs v1 v2 v3, e = .returned (.agg (cs ++ [v1, v2, v3]).toArray) ∧ RsO w0 w' cs (heldR r) ∧ Below w.heap.size w w'
def srcC (k : Int) : List Value := [.int .i64 k, .bool true, .bool false, .bool false, .bool false]
theorem srcI5 : (prog.info? 147).map (·.size) = some 5 := by kernel_rfl
theorem source_any (k : Int) (w : World) : Calls prog 119 #[.int .i64 k] w (RetB (.agg (srcC k).toArray) w) := by
 go_enter func119, ntmps119
 go_wp2_with fail
 refine ret_cell rfl w.heap.size rfl (L := srcC k) ((Blk.new w 147 (srcC k)).alloc _) _ underlying147 rfl srcI5 rfl ?_
 exact RetB.mk rfl (((Below.refl _ _).alloc (Nat.le_refl _) _).alloc (by simp) _)
theorem cfgI13 : (prog.info? 42).map (·.size) = some 13 := by kernel_rfl
theorem rsI10 : (prog.info? 37).map (·.size) = some 10 := by kernel_rfl
theorem RsO.one {w0 w : World} {cs : List Value} {r : Rs} (h : RsO w0 w cs r) : ∀ v ∈ cs, v.oneCell' = true := by
 obtain ⟨v1, v2, v3, rfl, h1, h2, h3⟩ := h
 obtain ⟨A1, c1, rfl⟩ := h1.form
 obtain ⟨A2, c2, rfl⟩ := h2.form
 obtain ⟨A3, c3, rfl⟩ := h3.form
 intro v hv
 simp only [rsC, List.mem_cons, List.not_mem_nil, or_false] at hv
 rcases hv with rfl | rfl | rfl | rfl | rfl | rfl | rfl | rfl | rfl | rfl <;> rfl
def RsIn (w0 w : World) (cs : List Value) (r : Rs) : Prop := ∃ A1 c1 A2 c2 A3 c3, cs = rsC (.slice A1 r.sv.length c1) (.slice A2 r.se.length c2) (.slice A3 r.so.length c3) r ∧ AdsR w A1 r.sv ∧ LIn w 1 (NmI w0) A2 r.se ∧ PfsR w A3 r.so ∧ r.sv.length ≤ 17592186044416 ∧ r.se.length ≤ 17592186044416 ∧ r.so.length ≤ 17592186044416
theorem RsIn.len {w0 w : World} {cs : List Value} {r : Rs} (h : RsIn w0 w cs r) : cs.length = 10 := by obtain ⟨_, _, _, _, _, _, rfl, _⟩ := h; rfl
theorem RsIn.below {w0 w w' : World} {cs : List Value} {r : Rs} (h : RsIn w0 w cs r) (hb : Below w.heap.size w w') : RsIn w0 w' cs r := by
 obtain ⟨A1, c1, A2, c2, A3, c3, h0, h1, h2, h3, l⟩ := h
 exact ⟨A1, c1, A2, c2, A3, c3, h0, h1.mono hb (fun _ _ h => h), h2.mono hb (fun _ _ h => h), h3.mono hb (fun _ _ h => h), l⟩
theorem RsIs.rsIn {w0 w : World} {cs : List Value} {r : Rs} (h : RsIs w0 cs r) (hw : Below w0.heap.size w0 w) : RsIn w0 w cs r := by
 obtain ⟨A1, c1, A2, c2, A3, c3, h0, h1, h2, h3, l⟩ := h
 exact ⟨A1, c1, A2, c2, A3, c3, h0, h1.mono hw (fun _ _ h => h), h2.lin hw, h3.mono hw (fun _ _ h => h), l⟩
theorem RsO.rsIn {w0 w : World} {cs : List Value} {r : Rs} (h : RsO w0 w cs r) (l1 : r.sv.length ≤ 17592186044416) (l2 : r.se.length ≤ 17592186044416) (l3 : r.so.length ≤ 17592186044416) : RsIn w0 w cs r := by
 obtain ⟨v1, v2, v3, h0, h1, h2, h3⟩ := h
 obtain ⟨A1, c1, rfl⟩ := h1.form
 obtain ⟨A2, c2, rfl⟩ := h2.form
 obtain ⟨A3, c3, rfl⟩ := h3.form
 exact ⟨A1, c1, A2, c2, A3, c3, h0, h1.lin (fun _ _ h => h.len), h2.lin (fun _ _ ⟨_, _, h, _⟩ => by rw [h]; rfl), h3.lin (fun _ _ h => by rw [h.1]; exact pfC_len h.2), l1, l2, l3⟩
structure Src where
 kd : Int
 a : Bool
 b : Bool
 c : Bool
 d : Bool
def srcX (s : Src) : List Value := [.int .i64 s.kd, .bool s.a, .bool s.b, .bool s.c, .bool s.d]
def srcZ : List Value := [.int .i64 0, .bool false, .bool false, .bool false, .bool false]
theorem srcX_one (s : Src) : ∀ v ∈ srcX s, v.oneCell' = true := by
 intro v hv
 simp only [srcX, List.mem_cons, List.not_mem_nil, or_false] at hv
 rcases hv with rfl | rfl | rfl | rfl | rfl <;> rfl
theorem srcInfo3 : (prog.info? 147).map (fun i => (i.zero, i.size, i.bytes)) = some (some (.agg srcZ.toArray), 5, 16) := by kernel_rfl
def SrcI (cs : List Value) (s : Src) : Prop := cs = srcX s
def srcOk (s : Src) : Bool := s.kd == 1 || s.kd == 2 || s.kd == 3
theorem maySource_any (s : Src) (w : World) : Calls prog 63 #[.agg (srcX s).toArray] w (RetB (.bool (srcOk s)) w) := by
 unfold srcX
 obtain ⟨R, hR⟩ : ∃ R, Hid (srcOk s = R) := ⟨_, Hh rfl⟩
 rw [hR.out]
 go_enter func63, ntmps63
 go_wp2_with fail
 all_goals (go_ret; exact RetB.mk (by have := hR.out; unfold srcOk at this; simp_all) ((Below.refl _ _).alloc (Nat.le_refl _) _))
set_option maxHeartbeats 1000000 in
theorem leftS_any (A : Option Addr) (c : Nat) (l : List Src) (m : Nat) (w : World) (hA : LIn w 5 SrcI A l) (hl : l.length ≤ 17592186044416) (hm : m ≤ 100) :
  Calls prog 62 #[.slice A l.length c, .int .i64 m, .func (.func 63) #[] #[]] w (LeftRet 147 5 (fun _ => SrcI) (leftP srcOk l m) w) := by
 have hadz : srcZ.length = 5 := rfl
 obtain ⟨p, hp⟩ : ∃ p, p = srcOk := ⟨_, rfl⟩
 have MS := Hh (fun a W => maySource_any a W)
 rw [← hp] at MS ⊢
 clear hp
 go_enter func62, ntmps62
 go_wp2_with fail
 go_loopw [7, 12] (fun kv iv wr => ∃ k : Nat, k ≤ l.length ∧ iv = .int .i64 k ∧ LOwn wr w.heap.size 147 5 SrcI kv ((l.take k).filter p) ∧ ((l.take k).filter p).length ≤ m ∧ Below w.heap.size w wr) (fun _ iv _ => l.length - (intOf iv).toNat)
 case atStart => exact ⟨0, Nat.zero_le _, rfl, LOwn.nil _ _ _ _ _, by simp, Below.refl _ _⟩
 obtain ⟨k, hk, rfl, ho, hle, hB⟩ := hrel
 obtain ⟨Ak, ck, hv⟩ := ho.form
 subst hv
 by_cases hlt : k < l.length
 case neg =>
  have hlt' : ¬ (k : Int) < l.length := by omega
  go_wp2_with fail
  go_ret
  refine ⟨_, rfl, ?_, hB⟩
  rw [List.take_of_length_le (by omega)] at ho hle
  rw [List.take_of_length_le (by omega), left_all hle]
  exact ho
 have hlt' : (k : Int) < l.length := by omega
 obtain ⟨b, off, rfl, hb, hr⟩ := hA (by omega)
 obtain ⟨cs, hcs, hce⟩ := hr k hlt
 have hcs := range_below hcs hB hb
 have hcl : cs.length = 5 := by rw [hce]; exact rfl
 have hone : ∀ v ∈ cs, v.oneCell' = true := by rw [hce]; exact srcX_one _
 have MK : Hid (∀ W, Calls prog 63 #[.agg cs.toArray] W (RetB (.bool (p l[k])) W)) := Hh (fun W => by rw [hce]; exact MS.out _ W)
 have HC := Hh hce
 have HO := Hh ho
 clear hce hr ho hA
 have W1 : Below wr.heap.size wr (wr.alloc (.cells srcZ.toArray 147)) := (Below.refl _ _).alloc (Nat.le_refl _) _
 by_cases hful : ((l.take k).filter p).length < m
 case neg =>
  have hful' : ¬ (((l.take k).filter p).length : Int) < m := by omega
  go_wp2_with (first
   | (refine at_op (.load 147 (.tmp 14)) rfl ?_; go_must (refine wpList_ldR rfl 147 (.tmp 14) rfl b (off + k * 5) rfl cs hcs _ underlying147 rfl (by rw [hcl]; exact srcI5) ?_))
   | (refine at_op (.store 147 (.tmp 9) (.tmp 15)) rfl ?_; go_must (refine wpList_stB rfl _ _ _ rfl wr.heap.size 0 rfl cs rfl (Blk.new wr 147 srcZ) (by rw [hadz, hcl]; decide) (by rw [hcl]; exact srcI5) hone ?_)))
  intro w1 B1 g1 _
  have H1 := below_grown (below_then hB hB.size W1) g1 (by have := hB.size; simp; omega) hB.size
  have K1 := below_grown W1 g1 W1.size (Nat.le_refl _)
  clear g1 B1 W1
  go_wp2_with fail
  go_ret
  refine ⟨_, rfl, ?_, H1⟩
  have e : ((l.take k).filter p).length = m := by omega
  rw [left_full e]
  exact LOwn.below (R' := SrcI) HO.out K1 (fun _ _ h => h)
 have hful' : (((l.take k).filter p).length : Int) < m := by omega
 go_wp2_with (first
  | (refine at_op (.load 147 (.tmp 14)) rfl ?_; go_must (refine wpList_ldR rfl 147 (.tmp 14) rfl b (off + k * 5) rfl cs hcs _ underlying147 rfl (by rw [hcl]; exact srcI5) ?_))
  | (refine at_op (.store 147 (.tmp 9) (.tmp 15)) rfl ?_; go_must (refine wpList_stB rfl _ _ _ rfl wr.heap.size 0 rfl cs rfl (Blk.new wr 147 srcZ) (by rw [hadz, hcl]; decide) (by rw [hcl]; exact srcI5) hone ?_)))
 intro w1 B1 g1 _
 have B1' := blkAll B1 (by omega)
 have H1 := below_grown (below_then hB hB.size W1) g1 (by have := hB.size; simp; omega) hB.size
 clear B1
 go_wp2_with (refine at_op (.load 147 (.tmp 9)) rfl ?_; go_must (refine wpList_ldB rfl _ _ rfl wr.heap.size 0 rfl B1' 5 (by omega) _ underlying147 rfl srcI5 cs (tk0 (by omega)) ?_))
 refine (MK.out _).mono ?_
 rintro _ w2 ⟨rfl, b2⟩
 have B2 := B1'.below b2 B1'.lt
 have H2 := below_then H1 H1.size b2
 have K2 := below_then (below_grown W1 g1 W1.size (Nat.le_refl _)) (by have := g1.size; simp at this; omega) b2
 have O2 := LOwn.below (R' := SrcI) HO.out K2 (fun _ _ h => h)
 have FS := Hh (filter_succ (p := p) hlt)
 have hlen : ((l.take k).filter p).length + 1 ≤ 200 := by omega
 clear MS MK hcs W1 g1 b2 B1' HO H1
 cases hpk : p l[k] with
 | false =>
  rw [hpk] at FS
  have HP := Hh hpk
  clear hpk
  go_wp2_with fail
  go_roundw
  case rel => exact ⟨k + 1, by omega, by go_num, by rw [FS.out]; simpa using O2, by rw [FS.out]; simpa using hle, H2⟩
  case measure => simp [intOf]; omega
 | true =>
  rw [hpk] at FS
  have HP := Hh hpk
  have K3 : Below w2.heap.size w2 (w2.alloc (.cells cs.toArray 147)) := (Below.refl _ _).alloc (Nat.le_refl _) _
  have O3 := LOwn.below (R' := SrcI) O2 K3 (fun _ _ h => h)
  have N3 := O2.ne (Nat.le_refl _)
  clear hpk
  go_wp2_with (first
   | (refine at_op (.load 147 (.tmp 9)) rfl ?_; go_must (refine wpList_ldB rfl _ _ rfl wr.heap.size 0 rfl B2 5 (by omega) _ underlying147 rfl srcI5 cs (tk0 (by omega)) ?_))
   | (refine at_op (.buildSlice 39 1 #[(0, .tmp 24)]) rfl ?_; go_must (refine wpList_bsG rfl 39 147 _ 5 16 underlying39 srcInfo3 (by decide) (by decide) (.tmp 24) rfl cs rfl hcl ?_))
   | (at_builtin; go_must (refine wpList_app1 _ rfl _ _ 39 rfl 147 _ 5 16 underlying39 srcInfo3 (by kernel_rfl) (by decide) w.heap.size _ _ rfl O3 (by have := H2.size; simp; omega) w2.heap.size cs l[k] rfl (Blk.new _ _ _) N3 hcl hone HC.out (by simp only [maxLen]; omega) (by omega) ?_)))
  intro v' w4 O4 g4
  have H4 := (below_then H2 H2.size K3).grown g4 (by have := H2.size; simp; omega) O3.base
  clear g4 K3 O3 O2 N3 B2 H2
  go_wp2_with fail
  go_roundw
  case rel => exact ⟨k + 1, by omega, by go_num, by rw [FS.out]; exact O4, by rw [FS.out]; simp; omega, H4⟩
  case measure => simp [intOf]; omega
structure Svc where
 n : Nat
 po : Int
 pr : Int
def svcZ : List Value := [nilS, .int .i64 0, .int .i64 0]
def SvcI (cs : List Value) (s : Svc) : Prop := ∃ A c, cs = [.slice A s.n c, .int .i64 s.po, .int .i64 s.pr]
theorem SvcI.len {cs : List Value} {s : Svc} (h : SvcI cs s) : cs.length = 3 := by obtain ⟨A, c, rfl⟩ := h; rfl
theorem SvcI.one {cs : List Value} {s : Svc} (h : SvcI cs s) : ∀ v ∈ cs, v.oneCell' = true := by
 obtain ⟨A, c, rfl⟩ := h
 intro v hv
 simp only [List.mem_cons, List.not_mem_nil, or_false] at hv
 rcases hv with rfl | rfl | rfl <;> rfl
theorem svcInfo3 : (prog.info? 153).map (fun i => (i.zero, i.size, i.bytes)) = some (some (.agg svcZ.toArray), 3, 40) := by kernel_rfl
theorem svcI3 : (prog.info? 153).map (·.size) = some 3 := by kernel_rfl
def svcOk (s : Svc) : Bool := decide ((1 : Int) ≤ s.n) && (decide (0 ≤ s.po) && (decide (s.po ≤ 65535) && (s.pr == 6 || s.pr == 17)))
theorem mayService_any (cs : List Value) (s : Svc) (h : SvcI cs s) (w : World) : Calls prog 67 #[.agg cs.toArray] w (RetB (.bool (svcOk s)) w) := by
 obtain ⟨A, c, rfl⟩ := h
 obtain ⟨R, hR⟩ : ∃ R, Hid (svcOk s = R) := ⟨_, Hh rfl⟩
 rw [hR.out]
 go_enter func67, ntmps67
 go_wp2_with fail
 all_goals (go_ret; exact RetB.mk (by rw [← hR.out]; unfold svcOk; first | rfl | (congr 2; simp_all; done) | (congr 2; simp_all; omega)) ((Below.refl _ _).alloc (Nat.le_refl _) _))
set_option maxHeartbeats 1000000 in
theorem leftV_any (A : Option Addr) (c : Nat) (l : List Svc) (m : Nat) (w : World) (hA : LIn w 3 SvcI A l) (hl : l.length ≤ 17592186044416) (hm : m ≤ 1000) :
  Calls prog 66 #[.slice A l.length c, .int .i64 m, .func (.func 67) #[] #[]] w (LeftRet 153 3 (fun _ => SvcI) (leftP svcOk l m) w) := by
 have hadz : svcZ.length = 3 := rfl
 obtain ⟨p, hp⟩ : ∃ p, p = svcOk := ⟨_, rfl⟩
 have MS := Hh (fun cs a h W => mayService_any cs a h W)
 rw [← hp] at MS ⊢
 clear hp
 go_enter func66, ntmps66
 go_wp2_with fail
 go_loopw [7, 12] (fun kv iv wr => ∃ k : Nat, k ≤ l.length ∧ iv = .int .i64 k ∧ LOwn wr w.heap.size 153 3 SvcI kv ((l.take k).filter p) ∧ ((l.take k).filter p).length ≤ m ∧ Below w.heap.size w wr) (fun _ iv _ => l.length - (intOf iv).toNat)
 case atStart => exact ⟨0, Nat.zero_le _, rfl, LOwn.nil _ _ _ _ _, by simp, Below.refl _ _⟩
 obtain ⟨k, hk, rfl, ho, hle, hB⟩ := hrel
 obtain ⟨Ak, ck, hv⟩ := ho.form
 subst hv
 by_cases hlt : k < l.length
 case neg =>
  have hlt' : ¬ (k : Int) < l.length := by omega
  go_wp2_with fail
  go_ret
  refine ⟨_, rfl, ?_, hB⟩
  rw [List.take_of_length_le (by omega)] at ho hle
  rw [List.take_of_length_le (by omega), left_all hle]
  exact ho
 have hlt' : (k : Int) < l.length := by omega
 obtain ⟨b, off, rfl, hb, hr⟩ := hA (by omega)
 obtain ⟨cs, hcs, hce⟩ := hr k hlt
 have hcs := range_below hcs hB hb
 have hcl : cs.length = 3 := SvcI.len hce
 have hone : ∀ v ∈ cs, v.oneCell' = true := SvcI.one hce
 have MK : Hid (∀ W, Calls prog 67 #[.agg cs.toArray] W (RetB (.bool (p l[k])) W)) := Hh (fun W => MS.out _ _ hce W)
 have HC := Hh hce
 have HO := Hh ho
 clear hce hr ho hA
 have W1 : Below wr.heap.size wr (wr.alloc (.cells svcZ.toArray 153)) := (Below.refl _ _).alloc (Nat.le_refl _) _
 by_cases hful : ((l.take k).filter p).length < m
 case neg =>
  have hful' : ¬ (((l.take k).filter p).length : Int) < m := by omega
  go_wp2_with (first
   | (refine at_op (.load 153 (.tmp 14)) rfl ?_; go_must (refine wpList_ldR rfl 153 (.tmp 14) rfl b (off + k * 3) rfl cs hcs _ underlying153 rfl (by rw [hcl]; exact svcI3) ?_))
   | (refine at_op (.store 153 (.tmp 9) (.tmp 15)) rfl ?_; go_must (refine wpList_stB rfl _ _ _ rfl wr.heap.size 0 rfl cs rfl (Blk.new wr 153 svcZ) (by rw [hadz, hcl]; decide) (by rw [hcl]; exact svcI3) hone ?_)))
  intro w1 B1 g1 _
  have H1 := below_grown (below_then hB hB.size W1) g1 (by have := hB.size; simp; omega) hB.size
  have K1 := below_grown W1 g1 W1.size (Nat.le_refl _)
  clear g1 B1 W1
  go_wp2_with fail
  go_ret
  refine ⟨_, rfl, ?_, H1⟩
  have e : ((l.take k).filter p).length = m := by omega
  rw [left_full e]
  exact LOwn.below (R' := SvcI) HO.out K1 (fun _ _ h => h)
 have hful' : (((l.take k).filter p).length : Int) < m := by omega
 go_wp2_with (first
  | (refine at_op (.load 153 (.tmp 14)) rfl ?_; go_must (refine wpList_ldR rfl 153 (.tmp 14) rfl b (off + k * 3) rfl cs hcs _ underlying153 rfl (by rw [hcl]; exact svcI3) ?_))
  | (refine at_op (.store 153 (.tmp 9) (.tmp 15)) rfl ?_; go_must (refine wpList_stB rfl _ _ _ rfl wr.heap.size 0 rfl cs rfl (Blk.new wr 153 svcZ) (by rw [hadz, hcl]; decide) (by rw [hcl]; exact svcI3) hone ?_)))
 intro w1 B1 g1 _
 have B1' := blkAll B1 (by omega)
 have H1 := below_grown (below_then hB hB.size W1) g1 (by have := hB.size; simp; omega) hB.size
 clear B1
 go_wp2_with (refine at_op (.load 153 (.tmp 9)) rfl ?_; go_must (refine wpList_ldB rfl _ _ rfl wr.heap.size 0 rfl B1' 3 (by omega) _ underlying153 rfl svcI3 cs (tk0 (by omega)) ?_))
 refine (MK.out _).mono ?_
 rintro _ w2 ⟨rfl, b2⟩
 have B2 := B1'.below b2 B1'.lt
 have H2 := below_then H1 H1.size b2
 have K2 := below_then (below_grown W1 g1 W1.size (Nat.le_refl _)) (by have := g1.size; simp at this; omega) b2
 have O2 := LOwn.below (R' := SvcI) HO.out K2 (fun _ _ h => h)
 have FS := Hh (filter_succ (p := p) hlt)
 have hlen : ((l.take k).filter p).length + 1 ≤ 2000 := by omega
 clear MS MK hcs W1 g1 b2 B1' HO H1
 cases hpk : p l[k] with
 | false =>
  rw [hpk] at FS
  have HP := Hh hpk
  clear hpk
  go_wp2_with fail
  go_roundw
  case rel => exact ⟨k + 1, by omega, by go_num, by rw [FS.out]; simpa using O2, by rw [FS.out]; simpa using hle, H2⟩
  case measure => simp [intOf]; omega
 | true =>
  rw [hpk] at FS
  have HP := Hh hpk
  have K3 : Below w2.heap.size w2 (w2.alloc (.cells cs.toArray 153)) := (Below.refl _ _).alloc (Nat.le_refl _) _
  have O3 := LOwn.below (R' := SvcI) O2 K3 (fun _ _ h => h)
  have N3 := O2.ne (Nat.le_refl _)
  clear hpk
  go_wp2_with (first
   | (refine at_op (.load 153 (.tmp 9)) rfl ?_; go_must (refine wpList_ldB rfl _ _ rfl wr.heap.size 0 rfl B2 3 (by omega) _ underlying153 rfl svcI3 cs (tk0 (by omega)) ?_))
   | (refine at_op (.buildSlice 40 1 #[(0, .tmp 24)]) rfl ?_; go_must (refine wpList_bsG rfl 40 153 _ 3 40 underlying40 svcInfo3 (by decide) (by decide) (.tmp 24) rfl cs rfl hcl ?_))
   | (at_builtin; go_must (refine wpList_app1 _ rfl _ _ 40 rfl 153 _ 3 40 underlying40 svcInfo3 (by kernel_rfl) (by decide) w.heap.size _ _ rfl O3 (by have := H2.size; simp; omega) w2.heap.size cs l[k] rfl (Blk.new _ _ _) N3 hcl hone HC.out (by simp only [maxLen]; omega) (by omega) ?_)))
  intro v' w4 O4 g4
  have H4 := (below_then H2 H2.size K3).grown g4 (by have := H2.size; simp; omega) O3.base
  clear g4 K3 O3 O2 N3 B2 H2
  go_wp2_with fail
  go_roundw
  case rel => exact ⟨k + 1, by omega, by go_num, by rw [FS.out]; exact O4, by rw [FS.out]; simp; omega, H4⟩
  case measure => simp [intOf]; omega
theorem allN_any (w0 : World) (A : Option Addr) (c : Nat) (l : List (List (List UInt8))) (m : Nat) (w : World) (hA : LIn w 1 (NmI w0) A l) (hw : Below w0.heap.size w0 w) (hlm : l.length ≤ m) (hl : l.length ≤ 17592186044416) (ok : ∀ n ∈ l, nmOk n = true) :
  Calls prog 173 #[.slice A l.length c, .int .i64 m, .func (.func 58) #[] #[]] w (Ret (.bool true) w) := by
 have hlm' : ¬ (m : Int) < l.length := by omega
 have MS := Hh (fun A c n W h1 h2 => mayName_any A c n W h1 h2)
 have OK := Hh ok
 clear ok
 go_enter func173, ntmps173
 go_wp2_with fail
 go_loopw [15] (fun iv wr => ∃ k : Nat, k ≤ l.length ∧ iv = .int .i64 k ∧ wr = w) (fun iv _ => l.length - (intOf iv).toNat)
 case atStart => exact ⟨0, Nat.zero_le _, rfl, rfl⟩
 obtain ⟨k, hk, rfl, rfl⟩ := hrel
 by_cases hlt : k < l.length
 case neg =>
  have hlt' : ¬ (k : Int) < l.length := by omega
  go_wp2_with fail
  go_ret
  exact Ret.mk rfl rfl
 have hlt' : (k : Int) < l.length := by omega
 obtain ⟨b, off, rfl, hb, hr⟩ := hA (by omega)
 obtain ⟨cs, hcs, An, cn, rfl, hnm⟩ := hr k hlt
 have ce := hcs 0 _ rfl
 simp only [Nat.mul_one, Nat.add_zero] at ce
 have hln := hnm.2.2.1
 have MK := Hh (MS.out An cn l[k] (by omega) wr (hnm.below hw).1)
 rw [OK.out _ (List.getElem_mem hlt)] at MK
 clear hr hA MS hnm hw hcs
 generalize l[k].length = nl at *
 go_wp2_with fail
 refine MK.out.mono ?_
 rintro _ w2 ⟨rfl, rfl⟩
 clear MK
 go_wp2_with fail
 go_roundw
 case rel => exact ⟨k + 1, by omega, by go_num, trivial⟩
 case measure => simp [intOf]; omega
theorem hstI19 : (prog.info? 196).map (·.size) = some 19 := by kernel_rfl
theorem nmI1 : (prog.info? 34).map (·.size) = some 1 := by kernel_rfl
theorem mayHost_any (w0 : World) (ad : Adr) (v : Value) (ns : List (List (List UInt8))) (w : World) (hip : ad.ip.length = 16) (hO : NmlO w0 w 0 v ns) (hw : Below w0.heap.size w0 w) (hn : ns.length ≤ 17592186044416) (ok : ∀ n ∈ ns, nmOk n = true) :
  Calls prog 121 #[.agg (ad.cells ++ [v]).toArray] w (RetB (.bool (adOk ad && decide (1 ≤ ns.length))) w) := by
 obtain ⟨A, c, rfl⟩ := hO.form
 have hLI : LIn w 1 (NmI w0) A ns := hO.lin (fun cs x h => by obtain ⟨_, _, rfl, _⟩ := h; rfl)
 have hcl := ad.cells_len hip
 have AC := Hh (fun W => addrCheck_any ad hip W)
 have HK := Hh (show adOk ad = (ad.check == 0) from rfl)
 rw [HK.out]
 obtain ⟨L, hL⟩ : ∃ L, ad.cells ++ [.slice A ns.length c] = L := ⟨_, rfl⟩
 have hLl : L.length = 19 := by rw [← hL]; simp [hcl]
 have L0 : (L.drop 0).take 18 = ad.cells := by rw [← hL, List.drop_zero]; exact List.take_left' hcl
 have L18 : L[18]? = some (.slice A ns.length c) := by rw [← hL, List.getElem?_append_right (by omega), hcl]; rfl
 rw [hL]
 clear hL HK
 generalize ad.cells = La at *
 generalize ad.check = ck at *
 have B0 := Blk.new w 196 L
 have HB : Below w.heap.size w (w.alloc (.cells L.toArray 196)) := (Below.refl _ _).alloc (Nat.le_refl _) _
 go_enter func121, ntmps121
 go_wp2_with (refine at_op (.load 24 (.tmp 3)) rfl ?_; go_must (refine wpList_ldB rfl _ _ rfl w.heap.size 0 rfl B0 18 (by omega) _ underlying24 rfl adI18 La L0 ?_))
 refine (AC.out _).mono ?_
 rintro _ w1 ⟨rfl, b1⟩
 have B1 := B0.below b1 B0.lt
 have H1 := below_then HB HB.size b1
 have c18 := B1.cell_ 18 L18
 have hLI1 := hLI.mono (R' := NmI w0) H1 (fun _ _ h => h)
 have hw1 := below_then hw hw.size H1
 have AL := Hh (allN_any w0 A c ns ns.length w1 hLI1 hw1 (Nat.le_refl _) hn ok)
 clear AC hLI hLI1 hO ok hw hw1 B0 b1 HB
 by_cases hc : ck = 0
 case neg =>
  have e : (ck == 0) = false := by simpa using hc
  rw [e]
  go_wp2_with fail
  go_ret
  exact RetB.mk (by simp [hc] <;> omega) H1
 have e : (ck == 0) = true := by simpa using hc
 rw [e]
 by_cases h1 : 1 ≤ ns.length
 case neg =>
  have h1' : ¬ (1 : Int) ≤ ns.length := by omega
  rw [decide_eq_false h1]
  go_wp2_with fail
  go_ret
  exact RetB.mk (by simp [hc] <;> omega) H1
 have h1' : (1 : Int) ≤ ns.length := by omega
 rw [decide_eq_true h1]
 go_wp2_with fail
 refine AL.out.mono ?_
 rintro _ w2 ⟨rfl, rfl⟩
 go_wp2_with fail
 go_ret
 exact RetB.mk (by simp [hc] <;> omega) H1
structure Hst where
 ad : Adr
 ns : List (List (List UInt8))
def hstZ : List Value := Adr.zero.cells ++ [nilS]
def HstO (w0 w : World) (cs : List Value) (h : Hst) : Prop := ∃ v, cs = h.ad.cells ++ [v] ∧ h.ad.ip.length = 16 ∧ NmlO w0 w 0 v h.ns
theorem HstO.len {w0 w : World} {cs : List Value} {h : Hst} (x : HstO w0 w cs h) : cs.length = 19 := by
 obtain ⟨v, rfl, h1, _⟩ := x
 simp [h.ad.cells_len h1]
theorem HstO.one {w0 w : World} {cs : List Value} {h : Hst} (x : HstO w0 w cs h) : ∀ v ∈ cs, v.oneCell' = true := by
 obtain ⟨v, rfl, h1, h2⟩ := x
 obtain ⟨A, c, rfl⟩ := h2.form
 intro y hy
 rcases List.mem_append.1 hy with hy | hy
 ·
  exact h.ad.cells_one _ hy
 ·
  rw [List.mem_singleton.1 hy]; rfl
theorem HstO.below {w0 w w' : World} {cs : List Value} {h : Hst} (x : HstO w0 w cs h) (hb : Below w.heap.size w w') : HstO w0 w' cs h := by
 obtain ⟨v, h0, h1, h2⟩ := x
 exact ⟨v, h0, h1, LOwn.below (R' := NmI w0) h2 hb (fun _ _ h => h)⟩
theorem hstInfo3 : (prog.info? 196).map (fun i => (i.zero, i.size, i.bytes)) = some (some (.agg hstZ.toArray), 19, 56) := by kernel_rfl
def hstOk (h : Hst) : Bool := adOk h.ad && decide (1 ≤ h.ns.length)
theorem hst_may (w0 : World) (cs : List Value) (h : Hst) (w W : World) (x : HstO w0 w cs h) (hw0 : Below w0.heap.size w0 w) (hb : Below w.heap.size w W) (h1 : h.ns.length ≤ 17592186044416) (h2 : ∀ n ∈ h.ns, nmOk n = true) :
  Calls prog 121 #[.agg cs.toArray] W (RetB (.bool (hstOk h)) W) := by
 obtain ⟨v, rfl, hip, hO⟩ := x.below hb
 exact mayHost_any w0 h.ad v h.ns W hip hO (below_then hw0 hw0.size hb) h1 h2
set_option maxHeartbeats 1000000 in
theorem leftH_any (w0 : World) (A : Option Addr) (c : Nat) (l : List Hst) (m : Nat) (w : World) (hA : LIn w 19 (HstO w0 w) A l) (hw0 : Below w0.heap.size w0 w) (hok : ∀ h ∈ l, h.ns.length ≤ 17592186044416 ∧ ∀ n ∈ h.ns, nmOk n = true) (hl : l.length ≤ 17592186044416) (hm : m ≤ 100) :
  Calls prog 120 #[.slice A l.length c, .int .i64 m, .func (.func 121) #[] #[]] w (LeftRet 196 19 (fun _ => HstO w0 w) (leftP hstOk l m) w) := by
 have hadz : hstZ.length = 19 := rfl
 obtain ⟨p, hp⟩ : ∃ p, p = hstOk := ⟨_, rfl⟩
 have MS := Hh (fun cs h W (hc : HstO w0 w cs h) (hb : Below w.heap.size w W) h1 h2 => hst_may w0 cs h w W hc hw0 hb h1 h2)
 rw [← hp] at MS ⊢
 clear hp
 go_enter func120, ntmps120
 go_wp2_with fail
 go_loopw [7, 12] (fun kv iv wr => ∃ k : Nat, k ≤ l.length ∧ iv = .int .i64 k ∧ LOwn wr w.heap.size 196 19 (HstO w0 w) kv ((l.take k).filter p) ∧ ((l.take k).filter p).length ≤ m ∧ Below w.heap.size w wr) (fun _ iv _ => l.length - (intOf iv).toNat)
 case atStart => exact ⟨0, Nat.zero_le _, rfl, LOwn.nil _ _ _ _ _, by simp, Below.refl _ _⟩
 obtain ⟨k, hk, rfl, ho, hle, hB⟩ := hrel
 obtain ⟨Ak, ck, hv⟩ := ho.form
 subst hv
 by_cases hlt : k < l.length
 case neg =>
  have hlt' : ¬ (k : Int) < l.length := by omega
  go_wp2_with fail
  go_ret
  refine ⟨_, rfl, ?_, hB⟩
  rw [List.take_of_length_le (by omega)] at ho hle
  rw [List.take_of_length_le (by omega), left_all hle]
  exact ho
 have hlt' : (k : Int) < l.length := by omega
 obtain ⟨b, off, rfl, hb, hr⟩ := hA (by omega)
 obtain ⟨cs, hcs, hce⟩ := hr k hlt
 have hcs := range_below hcs hB hb
 have hcl : cs.length = 19 := hce.len
 have hone : ∀ v ∈ cs, v.oneCell' = true := hce.one
 have MK : Hid (∀ W, Below w.heap.size w W → Calls prog 121 #[.agg cs.toArray] W (RetB (.bool (p l[k])) W)) := Hh (fun W hb => MS.out _ _ W hce hb (hok _ (List.getElem_mem hlt)).1 (hok _ (List.getElem_mem hlt)).2)
 have HC := Hh hce
 have HO := Hh ho
 clear hce hr ho hA hok
 have W1 : Below wr.heap.size wr (wr.alloc (.cells hstZ.toArray 196)) := (Below.refl _ _).alloc (Nat.le_refl _) _
 by_cases hful : ((l.take k).filter p).length < m
 case neg =>
  have hful' : ¬ (((l.take k).filter p).length : Int) < m := by omega
  go_wp2_with (first
   | (refine at_op (.load 196 (.tmp 14)) rfl ?_; go_must (refine wpList_ldR rfl 196 (.tmp 14) rfl b (off + k * 19) rfl cs hcs _ underlying196 rfl (by rw [hcl]; exact hstI19) ?_))
   | (refine at_op (.store 196 (.tmp 9) (.tmp 15)) rfl ?_; go_must (refine wpList_stB rfl _ _ _ rfl wr.heap.size 0 rfl cs rfl (Blk.new wr 196 hstZ) (by rw [hadz, hcl]; decide) (by rw [hcl]; exact hstI19) hone ?_)))
  intro w1 B1 g1 _
  have H1 := below_grown (below_then hB hB.size W1) g1 (by have := hB.size; simp; omega) hB.size
  have K1 := below_grown W1 g1 W1.size (Nat.le_refl _)
  clear g1 B1 W1
  go_wp2_with fail
  go_ret
  refine ⟨_, rfl, ?_, H1⟩
  have e : ((l.take k).filter p).length = m := by omega
  rw [left_full e]
  exact LOwn.below (R' := HstO w0 w) HO.out K1 (fun _ _ h => h)
 have hful' : (((l.take k).filter p).length : Int) < m := by omega
 go_wp2_with (first
  | (refine at_op (.load 196 (.tmp 14)) rfl ?_; go_must (refine wpList_ldR rfl 196 (.tmp 14) rfl b (off + k * 19) rfl cs hcs _ underlying196 rfl (by rw [hcl]; exact hstI19) ?_))
  | (refine at_op (.store 196 (.tmp 9) (.tmp 15)) rfl ?_; go_must (refine wpList_stB rfl _ _ _ rfl wr.heap.size 0 rfl cs rfl (Blk.new wr 196 hstZ) (by rw [hadz, hcl]; decide) (by rw [hcl]; exact hstI19) hone ?_)))
 intro w1 B1 g1 _
 have B1' := blkAll B1 (by omega)
 have H1 := below_grown (below_then hB hB.size W1) g1 (by have := hB.size; simp; omega) hB.size
 clear B1
 go_wp2_with (refine at_op (.load 196 (.tmp 9)) rfl ?_; go_must (refine wpList_ldB rfl _ _ rfl wr.heap.size 0 rfl B1' 19 (by omega) _ underlying196 rfl hstI19 cs (tk0 (by omega)) ?_))
 refine (MK.out _ H1).mono ?_
 rintro _ w2 ⟨rfl, b2⟩
 have B2 := B1'.below b2 B1'.lt
 have H2 := below_then H1 H1.size b2
 have K2 := below_then (below_grown W1 g1 W1.size (Nat.le_refl _)) (by have := g1.size; simp at this; omega) b2
 have O2 := LOwn.below (R' := HstO w0 w) HO.out K2 (fun _ _ h => h)
 have FS := Hh (filter_succ (p := p) hlt)
 have hlen : ((l.take k).filter p).length + 1 ≤ 200 := by omega
 clear MS MK hcs W1 g1 b2 B1' HO H1
 cases hpk : p l[k] with
 | false =>
  rw [hpk] at FS
  have HP := Hh hpk
  clear hpk
  go_wp2_with fail
  go_roundw
  case rel => exact ⟨k + 1, by omega, by go_num, by rw [FS.out]; simpa using O2, by rw [FS.out]; simpa using hle, H2⟩
  case measure => simp [intOf]; omega
 | true =>
  rw [hpk] at FS
  have HP := Hh hpk
  have K3 : Below w2.heap.size w2 (w2.alloc (.cells cs.toArray 196)) := (Below.refl _ _).alloc (Nat.le_refl _) _
  have O3 := LOwn.below (R' := HstO w0 w) O2 K3 (fun _ _ h => h)
  have N3 := O2.ne (Nat.le_refl _)
  clear hpk
  go_wp2_with (first
   | (refine at_op (.load 196 (.tmp 9)) rfl ?_; go_must (refine wpList_ldB rfl _ _ rfl wr.heap.size 0 rfl B2 19 (by omega) _ underlying196 rfl hstI19 cs (tk0 (by omega)) ?_))
   | (refine at_op (.buildSlice 38 1 #[(0, .tmp 24)]) rfl ?_; go_must (refine wpList_bsG rfl 38 196 _ 19 56 underlying38 hstInfo3 (by decide) (by decide) (.tmp 24) rfl cs rfl hcl ?_))
   | (at_builtin; go_must (refine wpList_app1 _ rfl _ _ 38 rfl 196 _ 19 56 underlying38 hstInfo3 (by kernel_rfl) (by decide) w.heap.size _ _ rfl O3 (by have := H2.size; simp; omega) w2.heap.size cs l[k] rfl (Blk.new _ _ _) N3 hcl hone HC.out (by simp only [maxLen]; omega) (by omega) ?_)))
  intro v' w4 O4 g4
  have H4 := (below_then H2 H2.size K3).grown g4 (by have := H2.size; simp; omega) O3.base
  clear g4 K3 O3 O2 N3 B2 H2
  go_wp2_with fail
  go_roundw
  case rel => exact ⟨k + 1, by omega, by go_num, by rw [FS.out]; exact O4, by rw [FS.out]; simp; omega, H4⟩
  case measure => simp [intOf]; omega
def HstI (w : World) (cs : List Value) (h : Hst) : Prop := ∃ A c, cs = h.ad.cells ++ [.slice A h.ns.length c] ∧ h.ad.ip.length = 16 ∧ NmsR w A h.ns
theorem HstI.len {w : World} {cs : List Value} {h : Hst} (x : HstI w cs h) : cs.length = 19 := by
 obtain ⟨A, c, rfl, h1, _⟩ := x
 simp [h.ad.cells_len h1]
theorem HstI.one {w : World} {cs : List Value} {h : Hst} (x : HstI w cs h) : ∀ v ∈ cs, v.oneCell' = true := by
 obtain ⟨A, c, rfl, h1, h2⟩ := x
 intro y hy
 rcases List.mem_append.1 hy with hy | hy
 ·
  exact h.ad.cells_one _ hy
 ·
  rw [List.mem_singleton.1 hy]; rfl
def hstN (h : Hst) : Hst := ⟨h.ad, leftP nmOk h.ns h.ns.length⟩
def heldH (l : List Hst) : List Hst := leftP hstOk (l.map hstN) (l.map hstN).length
theorem bld_HstI (a b c d e f g h i j k l m n o p q r : Value) (A : Option Addr) (x y : Nat) (W : World) : (Instr.build 196 #[(0, .agg [a, b, c, d, e, f, g, h, i, j, k, l, m, n, o, p, q, r].toArray), (1, .slice A x y)]).run prog W = .ok (.agg ([a, b, c, d, e, f, g, h, i, j, k, l, m, n, o, p, q, r] ++ [Value.slice A x y]).toArray) W := by kernel_rfl
theorem bld_Hst (L : List Value) (hL : L.length = 18) (A : Option Addr) (x y : Nat) (W : World) : (Instr.build 196 #[(0, .agg L.toArray), (1, .slice A x y)]).run prog W = .ok (.agg (L ++ [Value.slice A x y]).toArray) W := by
 match L, hL with
 | [a, b, c, d, e, f, g, h, i, j, k, l, m, n, o, p, q, r], _ => exact bld_HstI ..
theorem hst_make (n : Nat) (hn : n ≤ 100) : ∃ Z : List Value, Z.length = n * 19 ∧ ∀ W : World, (Instr.makeSlice 38 (.int .i64 (n : Int)) (.int .i64 (n : Int))).run prog W = .ok (.slice (some ⟨W.heap.size, 0, none⟩) n n) (W.alloc (.cells Z.toArray 196)) := by
 obtain ⟨i, hi, hz, hsize, hby⟩ := info_parts hstInfo3
 refine ⟨(madeCells (Value.agg hstZ.toArray).cells (n * i.size)).toList, ?_, fun W => ?_⟩
 ·
  rw [hsize]
  have h19 : hstZ.length = 19 := rfl
  simp [madeCells]
 ·
  have h := run_make (P := prog) (w := W) 38 196 i _ underlying38 hi hz .i64 .i64 (n : Int) (n : Int) (by omega) (by omega) (by rw [hby]; omega) (by omega)
  rw [Array.toArray_toList]
  simpa using h
theorem leftP_fil {α : Type} (p : α → Bool) (l : List α) : leftP p l l.length = l.filter p := left_all (List.length_filter_le _ _)
theorem hstN_ok (h : Hst) (hl : h.ns.length ≤ 100) : (hstN h).ns.length ≤ 17592186044416 ∧ ∀ n ∈ (hstN h).ns, nmOk n = true := by
 unfold hstN
 simp only [leftP_fil]
 refine ⟨Nat.le_trans (List.length_filter_le _ _) (by omega), fun n hn => ?_⟩
 exact (List.mem_filter.1 hn).2
def HeldHRet (w0 : World) (l : List Hst) (w : World) (e : Ending) (w' : World) : Prop := ∃ v, e = .returned v ∧ LOwn w' 0 196 19 (HstO w0 w') v (heldH l) ∧ Below w.heap.size w w'
theorem row_put {F sub Z : List Value} {k : Nat} (hF : F.length = k) (hZ : sub.length ≤ Z.length) : (F ++ Z).take k ++ sub ++ (F ++ Z).drop (k + sub.length) = (F ++ sub) ++ Z.drop sub.length := by
 rw [List.take_left' hF, ← hF, List.drop_append, List.drop_of_length_le (by omega), List.nil_append, Nat.add_sub_cancel_left]
theorem each_len {α : Type} {R : List Value → α → Prop} {k : Nat} (hk : ∀ cs x, R cs x → cs.length = k) : ∀ {css : List (List Value)} {l : List α}, Each R css l → css.flatten.length = l.length * k
 | [], [], _ => by simp
 | cs :: css, x :: l, h => by
  have := each_len hk (css := css) (l := l) h.2
  simp only [List.flatten_cons, List.length_append, List.length_cons, hk _ _ h.1, this]
  rw [Nat.add_mul, Nat.one_mul, Nat.add_comm]
theorem HstO.blk {w0 w w' : World} {g : Nat} {cs L : List Value} {h : Hst} (x : HstO w0 w cs h) (hg : w.grownBy w' (some g)) (hb : Blk w g 196 L) : HstO w0 w' cs h := by
 obtain ⟨v, h0, h1, h2⟩ := x
 exact ⟨v, h0, h1, h2.blk hg hb (by decide)⟩
set_option maxHeartbeats 4000000 in
theorem heldHosts_any (w0 : World) (A : Option Addr) (c : Nat) (l : List Hst) (w : World) (hA : LIn w0 19 (HstI w0) A l) (hw : Below w0.heap.size w0 w) (hl : l.length ≤ 100) (hn : ∀ h ∈ l, h.ns.length ≤ 100) :
  Calls prog 65 #[.slice A l.length c] w (HeldHRet w0 l w) := by
 obtain ⟨Z0, hZ0, hmk⟩ := hst_make l.length hl
 have LH := Hh (fun (W : World) (g : Nat) (hA' : LIn W 19 (HstO w0 W) (some ⟨g, 0, none⟩) (l.map hstN)) (hW : Below w0.heap.size w0 W) => leftH_any w0 (some ⟨g, 0, none⟩) l.length (l.map hstN) (l.map hstN).length W hA' hW (fun h hh => by obtain ⟨x, hx, rfl⟩ := List.mem_map.1 hh; exact hstN_ok x (hn x hx)) (by rw [List.length_map]; omega) (by rw [List.length_map]; omega))
 rw [List.length_map] at LH
 have hzl : hstZ.length = 19 := rfl
 have C0 := Blk.new w 196 Z0
 have HB0 : Below w.heap.size w (w.alloc (.cells Z0.toArray 196)) := (Below.refl _ _).alloc (Nat.le_refl _) _
 go_enter func65, ntmps65
 go_wp2_with fail
 go_loopw [11] (fun iv wr => ∃ (k : Nat) (css : List (List Value)) (Z : List Value), k ≤ l.length ∧ iv = .int .i64 k ∧ Each (HstO w0 wr) css ((l.take k).map hstN) ∧ Z.length = (l.length - k) * 19 ∧ Blk wr w.heap.size 196 (css.flatten ++ Z) ∧ Below w.heap.size w wr) (fun iv _ => l.length - (intOf iv).toNat)
 case atStart => exact ⟨0, [], Z0, Nat.zero_le _, rfl, trivial, by rw [hZ0]; omega, C0, HB0⟩
 clear C0 HB0 hmk hZ0
 obtain ⟨k, css, Z, hk, rfl, hE, hZ, hBk, hB⟩ := hrel
 by_cases hlt : k < l.length
 case neg =>
  have hlt' : ¬ (k : Int) < l.length := by omega
  obtain rfl : k = l.length := by omega
  obtain rfl : Z = [] := List.length_eq_zero_iff.1 (by omega)
  rw [List.take_length] at hE
  rw [List.append_nil] at hBk
  have hLI : LIn wr 19 (HstO w0 wr) (some ⟨w.heap.size, 0, none⟩) (l.map hstN) := by
   intro hp
   refine ⟨w.heap.size, 0, rfl, hBk.lt, fun i hi => ?_⟩
   obtain ⟨cs, h1, h2⟩ := hE.get (fun _ _ h => h.len) [] i hi
   rw [List.append_nil] at h1
   exact ⟨cs, by rw [Nat.zero_add, ← h1]; exact hBk.range _ _ (by rw [each_len (fun _ _ h => HstO.len h) hE]; have := Nat.mul_le_mul_right 19 (Nat.succ_le_of_lt hi); rw [Nat.succ_mul] at this; omega), h2⟩
  have L2 := Hh (LH.out wr w.heap.size hLI (below_then hw hw.size hB))
  clear LH hE hLI
  go_wp2_with fail
  refine L2.out.mono ?_
  rintro _ w2 ⟨v, rfl, hO, b2⟩
  obtain ⟨A2, c2, hv⟩ := hO.form
  subst hv
  go_wp2_with fail
  go_ret
  refine ⟨_, rfl, ?_, below_then hB hB.size b2⟩
  unfold heldH
  rw [List.length_map]
  exact (LOwn.below (R' := HstO w0 w2) hO (Below.refl _ _) (fun _ _ h => h.below b2)).zero
 have hlt' : (k : Int) < l.length := by omega
 obtain ⟨b, off, rfl, hb, hr⟩ := hA (by omega)
 obtain ⟨cs, hcs, hce⟩ := hr k hlt
 have hcs := range_below (range_below hcs hw hb) hB (Nat.lt_of_lt_of_le hb hw.size)
 have hcl := hce.len
 have hone := hce.one
 obtain ⟨An, cn, hcc, hip, hNm⟩ := hce
 have hLa := l[k].ad.cells_len hip
 have L0 : (cs.drop 0).take 18 = l[k].ad.cells := by rw [hcc, List.drop_zero]; exact List.take_left' hLa
 have L18 : cs[18]? = some (.slice An l[k].ns.length cn) := by rw [hcc, List.getElem?_append_right (by omega), hLa]; rfl
 have hnk := hn _ (List.getElem_mem hlt)
 have W1 : Below wr.heap.size wr (wr.alloc (.cells hstZ.toArray 196)) := (Below.refl _ _).alloc (Nat.le_refl _) _
 have HE := Hh hE
 have HN := Hh hNm
 have HIP := Hh hip
 have ET := Hh (List.take_succ_eq_append_getElem hlt)
 have HC := Hh (show hstN l[k] = ⟨l[k].ad, leftP nmOk l[k].ns l[k].ns.length⟩ from rfl)
 clear hr hE hNm hip hcc LH
 go_wp2_with (first
  | (refine at_op (.load 196 (.tmp 14)) rfl ?_; go_must (refine wpList_ldR rfl 196 (.tmp 14) rfl b (off + k * 19) rfl cs hcs _ underlying196 rfl (by rw [hcl]; exact hstI19) ?_))
  | (refine at_op (.store 196 (.tmp 5) (.tmp 15)) rfl ?_; go_must (refine wpList_stB rfl _ _ _ rfl wr.heap.size 0 rfl cs rfl (Blk.new wr 196 hstZ) (by rw [hzl, hcl]; decide) (by rw [hcl]; exact hstI19) hone ?_)))
 intro w1 B1 g1 _
 have B1' := blkAll B1 (by omega)
 have K1 := below_grown W1 g1 W1.size (Nat.le_refl _)
 have H1 := below_then hB hB.size K1
 have hBk1 := hBk.below K1 hBk.lt
 have hgw := hBk.lt
 have c18 := B1'.cell_ 18 L18
 clear B1 g1 W1 hcs hBk
 have gne : some wr.heap.size ≠ some w.heap.size := by intro e; injection e with e; omega
 have LA : Hid (∀ V, w1.grownBy V (some w.heap.size) → (Instr.loadAt 24 (.pointer (some ⟨wr.heap.size, 0, none⟩))).run prog V = .ok (.agg l[k].ad.cells.toArray) V) := Hh (fun V hV => (B1'.grown hV gne).loads 24 0 18 (by omega) _ underlying24 rfl adI18 _ L0)
 have LN : Hid (∀ V, w1.grownBy V (some w.heap.size) → (Instr.loadAt 34 (.pointer (some ⟨wr.heap.size, 18, none⟩))).run prog V = .ok (.slice An l[k].ns.length cn) V) := Hh (fun V hV => run_load1 underlying34 rfl (Blk.cell_ (B1'.grown hV gne) 18 L18))
 have HB1 := below_then hw hw.size H1
 have LC := Hh (fun V (hV : w1.grownBy V (some w.heap.size)) => leftN_any w0 An cn l[k].ns l[k].ns.length V HN.out (below_grown HB1 hV HB1.size hw.size) (by omega) hnk)
 have RB := Hh (fun A x y V => bld_Hst l[k].ad.cells hLa A x y V)
 obtain ⟨nl, hnl⟩ : ∃ nl, l[k].ns.length = nl := ⟨_, rfl⟩
 rw [hnl] at LN LC HC hnk
 clear L0 L18 c18 HN
 go_wp2_with fail
 refine wp_region_held_drew (S := fun V => w1.grownBy V (some w.heap.size)) (by kernel_rfl) (grown_drew (World.grownBy.refl _ _)) (fun hS => ?_)
 refine held_seq hS 9 [0,1,2,3,4,5,6,7,8] rfl (by kernel_rfl) (fun _ _ _ _ _ h => h) rfl rfl ?_
 (refine ⟨_, (.slice (some ⟨w.heap.size, 0, none⟩) l.length l.length), rfl, .inl ⟨rfl, fun V hV => rfl⟩, ?_⟩; simp only [Act.put, lsA, lsB, lsC])
 (refine ⟨_, (.int .i64 k), rfl, .inl ⟨rfl, fun V hV => rfl⟩, ?_⟩; simp only [Act.put, lsA, lsB, lsC])
 (refine ⟨_, (.pointer (some ⟨wr.heap.size, 0, none⟩)), rfl, .inl ⟨rfl, fun V hV => rfl⟩, ?_⟩; simp only [Act.put, lsA, lsB, lsC])
 (refine ⟨_, _, rfl, .inl ⟨rfl, fun V hV => (exec_ld 24 (.tmp 18) ⟨wr.heap.size, 0, none⟩ rfl rfl (LA.out V hV))⟩, ?_⟩; simp only [Act.put, lsA, lsB, lsC])
 (refine ⟨_, (.pointer (some ⟨wr.heap.size, 18, none⟩)), rfl, .inl ⟨rfl, fun V hV => rfl⟩, ?_⟩; simp only [Act.put, lsA, lsB, lsC])
 (refine ⟨_, _, rfl, .inl ⟨rfl, fun V hV => (exec_ld 34 (.tmp 20) ⟨wr.heap.size, 18, none⟩ rfl rfl (LN.out V hV))⟩, ?_⟩; simp only [Act.put, lsA, lsB, lsC])
 (refine ⟨_, (.pointer (some ⟨wr.heap.size, 18, none⟩)), rfl, .inl ⟨rfl, fun V hV => rfl⟩, ?_⟩; simp only [Act.put, lsA, lsB, lsC])
 (refine ⟨_, _, rfl, .inl ⟨rfl, fun V hV => (exec_ld 34 (.tmp 22) ⟨wr.heap.size, 18, none⟩ rfl rfl (LN.out V hV))⟩, ?_⟩; simp only [Act.put, lsA, lsB, lsC])
 (refine ⟨_, (.int .i64 nl), rfl, .inl ⟨rfl, fun V hV => (by go_simp)⟩, ?_⟩; simp only [Act.put, lsA, lsB, lsC])
 simp only [SeqC]
 refine held_call 9 (some 25) 57 #[.slice An nl cn, .int .i64 nl, .func (.func 58) #[] #[]] (by kernel_rfl) rfl rfl (by kernel_rfl) (by go_simp) (LC.out _ hS) ?_
 rintro _ w6 ⟨v6, rfl, hO6, b6⟩
 have K6 : w1.grownBy w6 (some w.heap.size) := grown_below hS b6
 obtain ⟨A6, c6, hv6⟩ := hO6.form
 subst hv6
 have hO60 := Hh hO6.zero
 refine ⟨_, rfl, K6, ?_⟩
 clear hS
 have hS := K6
 simp only [Act.put, lsA, lsB, lsC]
 generalize (leftP nmOk l[k].ns nl).length = n6 at *
 refine held_seq hS 2 [10,11] rfl (by kernel_rfl) (fun _ _ _ _ _ h => h) rfl rfl ?_
 (refine ⟨_, (.agg (l[k].ad.cells ++ [Value.slice A6 n6 c6]).toArray), rfl, .inl ⟨rfl, fun V hV => (exec_bldH 196 _ rfl #[(0, .agg l[k].ad.cells.toArray), (1, .slice A6 n6 c6)] (by kernel_rfl) (RB.out A6 n6 c6 V))⟩, ?_⟩; simp only [Act.put, lsA, lsB, lsC])
 (refine ⟨_, _, rfl, .inl ⟨rfl, fun V hV => (exec_ixK underlying38 hstI19 (by decide) (.tmp 16) (.tmp 17) rfl rfl rfl hlt V)⟩, ?_⟩; simp only [Act.put, lsA, lsB, lsC])
 simp only [SeqC]
 have hBk6 : Blk w6 w.heap.size 196 (css.flatten ++ Z) := hBk1.drew.below b6 hBk1.drew.lt
 have hEl := each_len (fun _ _ h => HstO.len h) HE.out
 rw [List.length_map, List.length_take, Nat.min_eq_left hk] at hEl
 have hsl : (l[k].ad.cells ++ [Value.slice A6 n6 c6]).length = 19 := by simp [hLa]
 have hs1 : ∀ v ∈ l[k].ad.cells ++ [Value.slice A6 n6 c6], v.oneCell' = true := by
  intro y hy
  rcases List.mem_append.1 hy with hy | hy
  ·
   exact l[k].ad.cells_one _ hy
  ·
   rw [List.mem_singleton.1 hy]; rfl
 have hroom : (l.length - k) * 19 = (l.length - (k + 1)) * 19 + 19 := by omega
 refine held_stB 12 none 196 (.tmp 27) (.tmp 26) (by kernel_rfl) rfl rfl rfl (by kernel_rfl) w.heap.size (0 + k * 19) rfl (l[k].ad.cells ++ [Value.slice A6 n6 c6]) rfl hBk6 (by rw [hsl, List.length_append, hEl, hZ]; omega) (by rw [hsl]; exact hstI19) hs1 ?_
 intro w7 B7 g7 _
 rw [Nat.zero_add, row_put hEl (by rw [hsl, hZ]; omega)] at B7
 have G7 : w1.grownBy w7 (some w.heap.size) := grown_trans K6 g7 (.inl rfl)
 have H7 : Below w.heap.size w w7 := below_grown H1 G7 H1.size (Nat.le_refl _)
 have E7 : Each (HstO w0 w7) (css ++ [l[k].ad.cells ++ [Value.slice A6 n6 c6]]) ((l.take (k + 1)).map hstN) := by
  rw [ET.out, List.map_append]
  refine Each.app1 ?_ (HE.out.mono (fun _ _ x => (x.below K1).blk G7 hBk1))
  rw [HC.out]
  exact ⟨_, rfl, HIP.out, hO60.out.blk g7 hBk6 (by decide)⟩
 have B8 : Blk w7 w.heap.size 196 ((css ++ [l[k].ad.cells ++ [Value.slice A6 n6 c6]]).flatten ++ Z.drop 19) := by
  rw [List.flatten_append, List.flatten_cons, List.flatten_nil, List.append_nil]
  rwa [hsl] at B7
 have Z8 : (Z.drop 19).length = (l.length - (k + 1)) * 19 := by rw [List.length_drop, hZ]; omega
 refine ⟨G7, ?_⟩
 simp only [Act.put, lsA, lsB, lsC]
 refine wpAnyH_done (by kernel_rfl) ?_ _
 clear hS K6 hBk6 hBk1 B1' LA LN LC RB HE HC HIP hO60 g7 B7 G7 K1 H1 b6 HB1
 go_wp2_with fail
 go_roundw
 case rel => exact ⟨k + 1, _, _, by omega, by go_num, E7, Z8, B8, H7⟩
 case measure => simp [intOf]; omega
theorem LOwn.rows {α : Type} {R : List Value → α → Prop} {w : World} {g : Nat} {e : TypeId} (k : Nat) {css : List (List Value)} {l : List α} (hb : Blk w g e css.flatten) (hk : ∀ cs x, R cs x → cs.length = k) (hE : Each R css l) (hm : l.length ≤ maxLen) : LOwn w 0 e k R (.slice (some ⟨g, 0, none⟩) l.length l.length) l := by
 have hl := each_len hk hE
 refine ⟨css, ⟨hl, .inr ⟨g, l.length, css.flatten.toArray, rfl, Nat.zero_le _, hb, Nat.le_refl _, hm, by simp [hl], ?_⟩⟩, hE⟩
 exact List.take_of_length_le (by rw [hl]; exact Nat.le_refl _)
def srcP : List Src := [⟨1, true, false, false, false⟩, ⟨2, true, false, false, false⟩]
theorem plainS_any (w : World) : Calls prog 64 #[] w (fun e w' => ∃ A c, e = .returned (.slice A 2 c) ∧ LOwn w' 0 147 5 SrcI (.slice A 2 c) srcP ∧ Below w.heap.size w w') := by
 have S := Hh (fun k W => source_any k W)
 unfold srcC at S
 go_enter func64, ntmps64
 go_wp2_with fail
 refine (S.out 1 _).mono ?_
 rintro _ w1 ⟨rfl, b1⟩
 go_wp2_with fail
 refine (S.out 2 _).mono ?_
 rintro _ w2 ⟨rfl, b2⟩
 go_wp2_with fail
 go_ret
 refine ⟨_, _, rfl, ?_, (below_then b1 b1.size b2).alloc (by have := b1.size; have := b2.size; omega) _⟩
 exact LOwn.rows (css := [srcX ⟨1, true, false, false, false⟩, srcX ⟨2, true, false, false, false⟩]) (l := srcP) 5 (Blk.new w2 _ _) (fun _ _ h => by rw [h]; rfl) ⟨rfl, rfl, trivial⟩ (by decide)
def heldS (l : List Src) : List Src := if leftP srcOk l 8 = [] then srcP else leftP srcOk l 8
theorem HstO.blkT {w0 w w' : World} {g : Nat} {t : TypeId} {cs L : List Value} {h : Hst} (x : HstO w0 w cs h) (hg : w.grownBy w' (some g)) (hb : Blk w g t L) (ht : t ≠ 81) : HstO w0 w' cs h := by
 obtain ⟨v, h0, h1, h2⟩ := x
 exact ⟨v, h0, h1, h2.blk hg hb ht⟩
def HeldSRet (w0 : World) (r : Rs) (hs : List Hst) (ss : List Src) (sv : List Svc) (w : World) (e : Ending) (w' : World) : Prop := ∃ cs v1 v2 v3, e = .returned (.agg (cs ++ [v1, v2, v3]).toArray) ∧ RsO w0 w' cs (heldR r) ∧ LOwn w' 0 196 19 (HstO w0 w') v1 (heldH hs) ∧ LOwn w' 0 147 5 SrcI v2 (heldS ss) ∧ LOwn w' 0 153 3 SvcI v3 sv ∧ Below w.heap.size w w'
def HeldCRet (w0 : World) (r : Rs) (hs : List Hst) (ss : List Src) (w : World) (e : Ending) (w' : World) : Prop := ∃ cs v1 v2 v3, e = .returned (.agg (cs ++ [v1, v2, v3]).toArray) ∧ RsO w0 w' cs (heldR r) ∧ LOwn w' 0 196 19 (HstO w0 w') v1 (heldH hs) ∧ LOwn w' 0 147 5 SrcI v2 (heldS ss) ∧ v3.oneCell' = true ∧ Below w.heap.size w w'
set_option maxHeartbeats 4000000 in
theorem heldS_any (w0 : World) (cs : List Value) (r : Rs) (Ah As Asv : Option Addr) (ch cS csv : Nat) (hs : List Hst) (ss : List Src) (vs : List Svc) (w : World) (h : RsIn w0 w cs r) (hw : Below w0.heap.size w0 w)
  (hH : LIn w0 19 (HstI w0) Ah hs) (hhl : hs.length ≤ 100) (hhn : ∀ h ∈ hs, h.ns.length ≤ 100) (hSr : LIn w 5 SrcI As ss) (hsl : ss.length ≤ 17592186044416) (hSv : LIn w0 3 SvcI Asv vs) (hvl : vs.length ≤ 1000) :
  Calls prog 19 #[.agg (cs ++ [Value.slice Ah hs.length ch, Value.slice As ss.length cS, Value.slice Asv vs.length csv]).toArray] w (HeldSRet w0 r hs ss (leftP svcOk vs vs.length) w) := by
 obtain ⟨A1, c1, A2, c2, A3, c3, rfl, h1, h2, h3, l1, l2, l3⟩ := h
 have L1 : Hid (∀ W, Below w.heap.size w W → Calls prog 54 #[.slice A1 r.sv.length c1, .int .i64 3, .func (.func 55) #[] #[]] W (LeftRet 24 18 (fun _ => AdI) (leftP adOk r.sv 3) W)) := Hh (fun W hb => leftA_any A1 c1 r.sv 3 W (h1.mono hb (fun _ _ h => h)) l1 (by decide))
 have L2 : Hid (∀ W, Below w.heap.size w W → Calls prog 57 #[.slice A2 r.se.length c2, .int .i64 6, .func (.func 58) #[] #[]] W (LeftRet 81 1 (fun _ => NmI w0) (leftP nmOk r.se 6) W)) := Hh (fun W hb => leftN_in w0 A2 c2 r.se 6 W (h2.mono hb (fun _ _ h => h)) (below_then hw hw.size hb) l2 (by decide))
 have L3 : Hid (∀ W, Below w.heap.size w W → Calls prog 59 #[.slice A3 r.so.length c3, .int .i64 10, .func (.func 60) #[] #[]] W (LeftRet 113 19 (fun _ => PfI) (leftP pfOk r.so 10) W)) := Hh (fun W hb => leftF_any A3 c3 r.so 10 W (h3.mono hb (fun _ _ h => h)) l3 (by decide))
 have LS : Hid (∀ W, Below w.heap.size w W → Calls prog 62 #[.slice As ss.length cS, .int .i64 8, .func (.func 63) #[] #[]] W (LeftRet 147 5 (fun _ => SrcI) (leftP srcOk ss 8) W)) := Hh (fun W hb => leftS_any As cS ss 8 W (hSr.mono hb (fun _ _ h => h)) hsl (by decide))
 have HH : Hid (∀ W, Below w.heap.size w W → Calls prog 65 #[.slice Ah hs.length ch] W (HeldHRet w0 hs W)) := Hh (fun W hb => heldHosts_any w0 Ah ch hs W hH (below_then hw hw.size hb) hhl hhn)
 have LV : Hid (∀ W, Below w.heap.size w W → Calls prog 66 #[.slice Asv vs.length csv, .int .i64 vs.length, .func (.func 67) #[] #[]] W (LeftRet 153 3 (fun _ => SvcI) (leftP svcOk vs vs.length) W)) := Hh (fun W hb => leftV_any Asv csv vs vs.length W (hSv.mono (below_then hw hw.size hb) (fun _ _ h => h)) (by omega) hvl)
 have HS4 : Hid (heldS ss = if leftP srcOk ss 8 = [] then srcP else leftP srcOk ss 8) := Hh rfl
 clear hH hhl hhn hSr hsl hSv
 generalize leftP srcOk ss 8 = s4 at *
 generalize hs.length = m1 at *
 generalize ss.length = m2 at *
 generalize leftP svcOk vs vs.length = s5 at *
 generalize vs.length = m3 at *
 obtain ⟨hr1, HR1⟩ : ∃ x, Hid (heldR r = x) := ⟨_, Hh rfl⟩
 have HR : Hid (heldR r = { r with sv := if leftP adOk r.sv 3 = [] then [quadA 127 0 0 1] else leftP adOk r.sv 3, se := leftP nmOk r.se 6, so := leftP pfOk r.so 10, nd := min (max r.nd 0) 15, tmo := min (max r.tmo 1) 30, at_ := min (max r.at_ 1) 5 }) := Hh rfl
 clear h1 h2 h3 l1 l2 l3 HR1 hr1 hw
 generalize leftP adOk r.sv 3 = s1 at *
 generalize leftP nmOk r.se 6 = s2 at *
 generalize leftP pfOk r.so 10 = s3 at *
 obtain ⟨svs, ses, sos, nd, tmo, att, ro, vc, si, ed⟩ := r
 simp only at L1 L2 L3 HR
 simp only [rsC, List.cons_append, List.nil_append]
 generalize svs.length = n1 at *
 generalize ses.length = n2 at *
 generalize sos.length = n3 at *
 go_enter func19, ntmps19
 go_wp2_with fail
 obtain ⟨X, hX⟩ : ∃ X, X = ((w.alloc (.cells #[.slice A1 n1 c1, .slice A2 n2 c2, .slice A3 n3 c3, .int .i64 nd, .int .i64 tmo, .int .i64 att, .bool ro, .bool vc, .bool si, .bool ed, .slice Ah m1 ch, .slice As m2 cS, .slice Asv m3 csv] 42)).alloc (.cells #[.slice none 0 0, .slice none 0 0, .slice none 0 0, .int .i64 0, .int .i64 0, .int .i64 0, .bool false, .bool false, .bool false, .bool false, .slice none 0 0, .slice none 0 0, .slice none 0 0] 42)).alloc (.cells #[.slice A1 n1 c1, .slice A2 n2 c2, .slice A3 n3 c3, .int .i64 nd, .int .i64 tmo, .int .i64 att, .bool ro, .bool vc, .bool si, .bool ed] 37) := ⟨_, rfl⟩
 rw [← hX]
 have HX : Below w.heap.size w X := by rw [hX]; exact (((Below.refl _ _).alloc (Nat.le_refl _) _).alloc (by simp) _).alloc (by simp; omega) _
 obtain ⟨cz, hcz⟩ : ∃ cz : List Value, cz = [.slice none 0 0, .slice none 0 0, .slice none 0 0, .int .i64 0, .int .i64 0, .int .i64 0, .bool false, .bool false, .bool false, .bool false, .slice none 0 0, .slice none 0 0, .slice none 0 0] := ⟨_, rfl⟩
 have C1 : Blk X w.heap.size 42 [.slice A1 n1 c1, .slice A2 n2 c2, .slice A3 n3 c3, .int .i64 nd, .int .i64 tmo, .int .i64 att, .bool ro, .bool vc, .bool si, .bool ed, .slice Ah m1 ch, .slice As m2 cS, .slice Asv m3 csv] := by rw [hX]; exact ((Blk.new w _ _).alloc _).alloc _
 have C2 : Blk X (w.heap.size + 1) 42 cz := by rw [hX, hcz]; exact (Blk.new' _ _ _ _ (by simp)).alloc _
 have C3 : Blk X (w.heap.size + 1 + 1) 37 [.slice A1 n1 c1, .slice A2 n2 c2, .slice A3 n3 c3, .int .i64 nd, .int .i64 tmo, .int .i64 att, .bool ro, .bool vc, .bool si, .bool ed] := by rw [hX]; exact Blk.new' _ _ _ _ (by simp)
 have hz13 : cz.length = 13 := by rw [hcz]; rfl
 obtain ⟨cl, hcl⟩ : ∃ cl : List Value, cl = [.slice A1 n1 c1, .slice A2 n2 c2, .slice A3 n3 c3, .int .i64 nd, .int .i64 tmo, .int .i64 att, .bool ro, .bool vc, .bool si, .bool ed, .slice Ah m1 ch, .slice As m2 cS, .slice Asv m3 csv] := ⟨_, rfl⟩
 rw [← hcl] at C1
 have k10 : cl[10]? = some (.slice Ah m1 ch) := by rw [hcl]; rfl
 have k11 : cl[11]? = some (.slice As m2 cS) := by rw [hcl]; rfl
 have k12 : cl[12]? = some (.slice Asv m3 csv) := by rw [hcl]; rfl
 have h13 : w.heap.size ≠ w.heap.size + 1 + 1 := by omega
 have h23 : w.heap.size + 1 ≠ w.heap.size + 1 + 1 := by omega
 have h12 : w.heap.size < w.heap.size + 1 := by omega
 have hlo : w.heap.size ≤ w.heap.size + 1 + 1 := by omega
 clear hX hcz hcl
 refine (L1.out _ HX).mono ?_
 rintro _ w1 ⟨v1, rfl, o1, b1⟩
 replace C1 := C1.below b1 C1.lt
 replace C2 := C2.below b1 C2.lt
 replace C3 := C3.below b1 C3.lt
 have H1 := below_then HX HX.size b1
 replace o1 := LOwn.zero o1
 clear b1 L1 HX
 obtain ⟨S1, hS1⟩ : ∃ S1, Hid ((if s1 = [] then [quadA 127 0 0 1] else s1) = S1) := ⟨_, Hh rfl⟩
 rw [hS1.out] at HR
 generalize w.heap.size + 1 + 1 = g3 at *
 generalize w.heap.size + 1 = g2 at *
 obtain ⟨Av, cv, hv⟩ := o1.form
 subst hv
 have d0 := C3.cell_ 0 rfl
 have f0 := C3.frozen 0
 go_upto_if 14 with fail
 go_cut [] (fun wx => ∃ v, AdsO wx 0 v S1 ∧ Blk wx w.heap.size 42 cl ∧ Blk wx g2 42 cz ∧ Blk wx g3 37 [v, .slice A2 n2 c2, .slice A3 n3 c3, .int .i64 nd, .int .i64 tmo, .int .i64 att, .bool ro, .bool vc, .bool si, .bool ed] ∧ Below w.heap.size w wx)
 case first =>
  by_cases hs : s1 = []
  case pos =>
   subst hs
   have hq : S1 = [quadA 127 0 0 1] := by rw [← hS1.out, if_pos rfl]
   have QO : Hid (∀ W, Calls prog 56 #[.int .u8 127, .int .u8 0, .int .u8 0, .int .u8 1] W (RetB (.agg (quadA 127 0 0 1).cells.toArray) W)) := Hh (fun W => quadOf_any 127 0 0 1 W)
   have HQ := Hh hq
   have hql : (quadA 127 0 0 1).cells.length = 18 := rfl
   have hqo : ∀ v ∈ (quadA 127 0 0 1).cells, v.oneCell' = true := Adr.cells_one _
   have HI : Hid (AdI (quadA 127 0 0 1).cells (quadA 127 0 0 1)) := Hh ⟨rfl, rfl⟩
   clear hq hS1 HR
   generalize quadA 127 0 0 1 = qa at *
   generalize qa.cells = qc at *
   go_wp2_with fail
   refine (QO.out _).mono ?_
   rintro _ w2 ⟨rfl, b2⟩
   have G1 := grown_cell1 w1 g3 0 (.slice Av 0 cv)
   have E1 := (C1.far (p := ⟨g3, 0, none⟩) h13 (.slice Av 0 cv)).below b2 (C1.far (p := ⟨g3, 0, none⟩) h13 _).lt
   have E2 := (C2.far (p := ⟨g3, 0, none⟩) h23 (.slice Av 0 cv)).below b2 (C2.far (p := ⟨g3, 0, none⟩) h23 _).lt
   have E3 := (C3.set 0 (.slice Av 0 cv)).below b2 (C3.set 0 _).lt
   simp only [List.set_cons_zero] at E3
   have H2 := below_then (below_grown H1 G1 H1.size hlo) (by simp [World.setCell]; exact H1.size) b2
   clear QO b2 G1 C1 C2 C3 d0 f0 L2 L3 o1
   go_wp2_with (refine at_op (.buildSlice 33 1 #[(0, .tmp 15)]) rfl ?_; go_must (refine wpList_bsN rfl 33 24 _ 18 32 underlying33 adInfo3 (by decide) (by decide) (.tmp 15) rfl qc rfl hql ?_))
   intro w3 B4 KA
   have O5 := LOwn.one 18 B4 hql HI.out
   replace E1 := E1.below KA E1.lt
   replace E2 := E2.below KA E2.lt
   replace E3 := E3.below KA E3.lt
   have H3 := below_then H2 H2.size KA
   have e30 := E3.cell_ 0 rfl
   have e3f := E3.frozen 0
   clear HI KA H2 B4
   go_wp2_with fail
   go_meet
   case rel =>
    refine ⟨_, ?_, E1.far h13 _, E2.far h23 _, E3.set 0 _, below_grown H3 (grown_cell1 _ _ _ _) H3.size hlo⟩
    rw [HQ.out]
    exact O5.blk (grown_cell1 _ _ _ _) E3 (by decide)
  case neg =>
   have hs0 : 0 < s1.length := by cases s1 with | nil => exact absurd rfl hs | cons _ _ => simp
   have hs1 : ((s1.length : Int) == 0) = false := by simp; exact hs
   have hq : S1 = s1 := by rw [← hS1.out, if_neg hs]
   have HQ := Hh hq
   clear hq hS1 HR hs
   obtain ⟨ln, hln⟩ : ∃ ln, Hid (s1.length = ln) := ⟨_, Hh rfl⟩
   rw [hln.out] at o1 hs0 hs1 ⊢
   go_wp2_with fail
   go_meet
   case rel =>
    refine ⟨_, ?_, C1.far h13 _, C2.far h23 _, C3.set 0 _, below_grown H1 (grown_cell1 _ _ _ _) H1.size hlo⟩
    rw [HQ.out]
    exact o1.blk (grown_cell1 _ _ _ _) C3 (by decide)
 case rest =>
  obtain ⟨v1, p1, E1, E2, E3, H2⟩ := hcut
  clear C1 C2 C3 d0 f0 H1 o1 hS1
  generalize wc = w2 at *
  have d1 := E3.cell_ 1 rfl
  obtain ⟨Aw, cw, hv⟩ := p1.form
  subst hv
  go_wp2_with fail
  refine (L2.out _ H2).mono ?_
  rintro _ w3 ⟨v2, rfl, o2, b3⟩
  replace p1 := LOwn.below (R' := AdI) p1 b3 (fun _ _ h => h)
  have F1 := E1.below b3 E1.lt
  have F2 := E2.below b3 E2.lt
  have F3 := E3.below b3 E3.lt
  have H3 := below_then H2 H2.size b3
  replace o2 := LOwn.zero o2
  obtain ⟨Ax, cx, hv⟩ := o2.form
  subst hv
  have d2 := F3.cell_ 2 rfl
  have e1 := F3.cell_ 1 rfl
  have ef := F3.frozen 1
  clear L2 b3 E1 E2 E3 d1 H2
  go_wp2_with fail
  refine (L3.out _ (below_grown H3 (grown_cell1 _ _ _ _) H3.size hlo)).mono ?_
  rintro _ w4 ⟨v3, rfl, o3, b4⟩
  have K3 := grown_cell1 w3 g3 1 (.slice Ax s2.length cx)
  have G1 := (F1.far (p := ⟨g3, 1, none⟩) h13 (.slice Ax s2.length cx)).below b4 (F1.far (p := ⟨g3, 1, none⟩) h13 _).lt
  have G2 := (F2.far (p := ⟨g3, 1, none⟩) h23 (.slice Ax s2.length cx)).below b4 (F2.far (p := ⟨g3, 1, none⟩) h23 _).lt
  have G3 := (F3.set 1 (.slice Ax s2.length cx)).below b4 (F3.set 1 _).lt
  replace p1 := LOwn.below (R' := AdI) (p1.blk K3 F3 (by decide)) b4 (fun _ _ h => h)
  replace o2 := LOwn.below (R' := NmI w0) (o2.blk K3 F3 (by decide)) b4 (fun _ _ h => h)
  replace o3 := LOwn.zero o3
  have H4 := below_then (below_grown H3 K3 H3.size hlo) (by simp [World.setCell]; exact H3.size) b4
  simp only [List.set_cons_zero, List.set_cons_succ] at G3
  obtain ⟨Ay, cy, hv⟩ := o3.form
  subst hv
  have d2 := G3.cell_ 2 rfl
  have d3 := G3.cell_ 3 rfl
  have d4 := G3.cell_ 4 rfl
  have d5 := G3.cell_ 5 rfl
  have f2 := G3.frozen 2
  have f3 := G3.frozen 3
  have f4 := G3.frozen 4
  have f5 := G3.frozen 5
  have d11 := G1.cell_ 11 k11
  clear K3 b4 F1 F2 F3 e1 ef L3 H3
  go_wp2_with fail
  refine (heldN_any nd 0 15 _).mono ?_
  rintro _ _ ⟨rfl, rfl⟩
  go_wp2_with fail
  refine (heldN_any tmo 1 30 _).mono ?_
  rintro _ _ ⟨rfl, rfl⟩
  go_wp2_with fail
  refine (heldN_any att 1 5 _).mono ?_
  rintro _ _ ⟨rfl, rfl⟩
  go_wp2_with fail
  have Q1 := G1.far (p := ⟨g3, 2, none⟩) h13 (.slice Ay s3.length cy) |>.far (p := ⟨g3, 3, none⟩) h13 (.int .i64 (min (max nd 0) 15)) |>.far (p := ⟨g3, 4, none⟩) h13 (.int .i64 (min (max tmo 1) 30)) |>.far (p := ⟨g3, 5, none⟩) h13 (.int .i64 (min (max att 1) 5))
  have Q2 := G2.far (p := ⟨g3, 2, none⟩) h23 (.slice Ay s3.length cy) |>.far (p := ⟨g3, 3, none⟩) h23 (.int .i64 (min (max nd 0) 15)) |>.far (p := ⟨g3, 4, none⟩) h23 (.int .i64 (min (max tmo 1) 30)) |>.far (p := ⟨g3, 5, none⟩) h23 (.int .i64 (min (max att 1) 5))
  have Q3 := G3.set 2 (.slice Ay s3.length cy) |>.set 3 (.int .i64 (min (max nd 0) 15)) |>.set 4 (.int .i64 (min (max tmo 1) 30)) |>.set 5 (.int .i64 (min (max att 1) 5))
  simp only [List.set_cons_zero, List.set_cons_succ] at Q3
  have KQ : w4.grownBy _ (some g3) := grown_set (grown_set (grown_set (grown_cell1 w4 g3 2 (.slice Ay s3.length cy)) 3 (.int .i64 (min (max nd 0) 15))) 4 (.int .i64 (min (max tmo 1) 30))) 5 (.int .i64 (min (max att 1) 5))
  replace p1 := p1.blk KQ G3 (by decide)
  replace o2 := o2.blk KQ G3 (by decide)
  replace o3 := o3.blk KQ G3 (by decide)
  have H4' := below_grown H4 KQ H4.size hlo
  clear KQ G1 G2 G3 d2 d3 d4 d5 f2 f3 f4 f5 H4
  refine (LS.out _ H4').mono ?_
  rintro _ w5 ⟨v4, rfl, o4, b5⟩
  replace p1 := LOwn.below (R' := AdI) p1 b5 (fun _ _ h => h)
  replace o2 := LOwn.below (R' := NmI w0) o2 b5 (fun _ _ h => h)
  replace o3 := LOwn.below (R' := PfI) o3 b5 (fun _ _ h => h)
  replace Q1 := Q1.below b5 Q1.lt
  replace Q2 := Q2.below b5 Q2.lt
  replace Q3 := Q3.below b5 Q3.lt
  have H5 := below_then H4' H4'.size b5
  replace o4 := LOwn.zero o4
  clear b5 H4' LS d11
  obtain ⟨A4, c4, hv⟩ := o4.form
  subst hv
  obtain ⟨S4, hS4⟩ : ∃ S4, Hid (heldS ss = S4) := ⟨_, Hh rfl⟩
  rw [hS4.out] at HS4
  obtain ⟨R, hR⟩ : ∃ R : List Value, Hid (R = [.slice Aw S1.length cw, .slice Ax s2.length cx, .slice Ay s3.length cy, .int .i64 (min (max nd 0) 15), .int .i64 (min (max tmo 1) 30), .int .i64 (min (max att 1) 5), .bool ro, .bool vc, .bool si, .bool ed]) := ⟨_, Hh rfl⟩
  rw [← hR.out] at Q3
  have hRl : R.length = 10 := by rw [hR.out]; rfl
  have RO : Hid (AdsO w5 0 (.slice Aw S1.length cw) S1 ∧ NmlO w0 w5 0 (.slice Ax s2.length cx) s2 ∧ PfsO w5 0 (.slice Ay s3.length cy) s3) := Hh ⟨p1, o2, o3⟩
  clear p1 o2 o3
  go_upto_if 43 with fail
  go_cut [4] (fun v wx => ∃ A' c', v = .slice A' S4.length c' ∧ LOwn wx 0 147 5 SrcI (.slice A' S4.length c') S4 ∧ Below w5.heap.size w5 wx)
  case first =>
   by_cases hs4 : s4 = []
   case pos =>
    subst hs4
    have hq := Hh (show S4 = srcP by rw [HS4.out, if_pos rfl])
    go_wp2_with fail
    refine (plainS_any _).mono ?_
    rintro _ w6 ⟨A6, c6, rfl, o6, b6⟩
    go_wp2_with fail
    go_meet
    case rel => exact ⟨A6, c6, by rw [hq.out]; rfl, by rw [hq.out]; exact o6, b6⟩
   case neg =>
    have hs1 : ((s4.length : Int) == 0) = false := by simp; exact hs4
    have hq := Hh (show S4 = s4 by rw [HS4.out, if_neg hs4])
    clear hs4
    obtain ⟨ln, hln⟩ : ∃ ln, Hid (s4.length = ln) := ⟨_, Hh rfl⟩
    rw [hln.out] at o4 hs1 ⊢
    go_wp2_with fail
    go_meet
    case rel => exact ⟨A4, c4, by rw [hq.out, hln.out], by rw [hq.out, hln.out]; exact o4, Below.refl _ _⟩
  case rest =>
   obtain ⟨A5, c5, rfl, o5, b5⟩ := hcut
   obtain ⟨w6, rfl⟩ : ∃ w6, w6 = wc := ⟨_, rfl⟩
   have Q1 := Q1.below b5 Q1.lt
   have Q2 := Q2.below b5 Q2.lt
   have Q3 := Q3.below b5 Q3.lt
   have H6 := below_then H5 H5.size b5
   have RO6 : Hid (AdsO w6 0 (.slice Aw S1.length cw) S1 ∧ NmlO w0 w6 0 (.slice Ax s2.length cx) s2 ∧ PfsO w6 0 (.slice Ay s3.length cy) s3) := Hh ⟨LOwn.below (R' := AdI) RO.out.1 b5 (fun _ _ h => h), LOwn.below (R' := NmI w0) RO.out.2.1 b5 (fun _ _ h => h), LOwn.below (R' := PfI) RO.out.2.2 b5 (fun _ _ h => h)⟩
   clear RO o4 HS4 b5 H5
   have RON : Hid (∀ v ∈ R, v.oneCell' = true) := Hh (fun v hv => by
    rw [hR.out] at hv
    simp only [List.mem_cons, List.not_mem_nil, or_false] at hv
    rcases hv with rfl | rfl | rfl | rfl | rfl | rfl | rfl | rfl | rfl | rfl <;> rfl)
   have RB : Hid (∀ (B1 B2 B3 : Option Addr) (x1 y1 x2 y2 x3 y3 : Nat) (W : World), (Instr.build 42 #[(0, .agg R.toArray), (1, .slice B1 x1 y1), (2, .slice B2 x2 y2), (3, .slice B3 x3 y3)]).run prog W = .ok (.agg (R ++ [Value.slice B1 x1 y1, Value.slice B2 x2 y2, Value.slice B3 x3 y3]).toArray) W) := Hh (fun B1 B2 B3 x1 y1 x2 y2 x3 y3 W => by rw [hR.out]; kernel_rfl)
   generalize S4.length = n4 at *
   go_wp2_with fail
   refine wp_region_held_drew (S := fun V => Blk V w.heap.size 42 cl ∧ Blk V g3 37 R) (by kernel_rfl) ⟨Q1.drew, Q3.drew⟩ (fun hS => ?_)
   have HD : Below w6.heap.size w6 w6.drew := (Below.refl _ _).drew
   refine held_seq hS 9 [0,1,2,4,5,6,7,8,9] rfl (by kernel_rfl) (fun _ _ _ _ _ h => h) rfl rfl ?_
   (refine ⟨_, _, rfl, .inl ⟨rfl, fun V hV => (exec_ld 37 (.tmp 3) ⟨g3, 0, none⟩ rfl rfl (hV.2.loads 37 0 10 (by omega) _ underlying37 rfl rsI10 R (tk0 (by omega))))⟩, ?_⟩; simp only [Act.put, lsA, lsB, lsC])
   (refine ⟨_, (.pointer (some ⟨w.heap.size, 10, none⟩)), rfl, .inl ⟨rfl, fun V hV => rfl⟩, ?_⟩; simp only [Act.put, lsA, lsB, lsC])
   (refine ⟨_, _, rfl, .inl ⟨rfl, fun V hV => (exec_ld 38 (.tmp 46) ⟨w.heap.size, 10, none⟩ rfl rfl (run_load1 underlying38 rfl (hV.1.cell_ 10 k10)))⟩, ?_⟩; simp only [Act.put, lsA, lsB, lsC])
   (refine ⟨_, (.slice A5 n4 c5), rfl, .inl ⟨rfl, fun V hV => rfl⟩, ?_⟩; simp only [Act.put, lsA, lsB, lsC])
   (refine ⟨_, (.pointer (some ⟨w.heap.size, 12, none⟩)), rfl, .inl ⟨rfl, fun V hV => rfl⟩, ?_⟩; simp only [Act.put, lsA, lsB, lsC])
   (refine ⟨_, _, rfl, .inl ⟨rfl, fun V hV => (exec_ld 40 (.tmp 50) ⟨w.heap.size, 12, none⟩ rfl rfl (run_load1 underlying40 rfl (hV.1.cell_ 12 k12)))⟩, ?_⟩; simp only [Act.put, lsA, lsB, lsC])
   (refine ⟨_, (.pointer (some ⟨w.heap.size, 12, none⟩)), rfl, .inl ⟨rfl, fun V hV => rfl⟩, ?_⟩; simp only [Act.put, lsA, lsB, lsC])
   (refine ⟨_, _, rfl, .inl ⟨rfl, fun V hV => (exec_ld 40 (.tmp 52) ⟨w.heap.size, 12, none⟩ rfl rfl (run_load1 underlying40 rfl (hV.1.cell_ 12 k12)))⟩, ?_⟩; simp only [Act.put, lsA, lsB, lsC])
   (refine ⟨_, (.int .i64 m3), rfl, .inl ⟨rfl, fun V hV => (by go_simp)⟩, ?_⟩; simp only [Act.put, lsA, lsB, lsC])
   simp only [SeqC]
   refine held_call 3 (some 48) 65 #[.slice Ah m1 ch] (by kernel_rfl) rfl rfl (by kernel_rfl) (by go_simp) (HH.out _ (below_then H6 H6.size HD)) ?_
   rintro _ w7 ⟨v7, rfl, oh, b7⟩
   obtain ⟨A7, c7, hv⟩ := oh.form
   subst hv
   have hS7 : Blk w7 w.heap.size 42 cl ∧ Blk w7 g3 37 R := ⟨hS.1.below b7 hS.1.lt, hS.2.below b7 hS.2.lt⟩
   have HD7 := below_then HD HD.size b7
   refine ⟨_, rfl, hS7, ?_⟩
   clear hS
   have hS := hS7
   simp only [Act.put, lsA, lsB, lsC]
   refine held_call 10 (some 55) 66 #[.slice Asv m3 csv, .int .i64 m3, .func (.func 67) #[] #[]] (by kernel_rfl) rfl rfl (by kernel_rfl) (by go_simp) (LV.out _ (below_then H6 H6.size HD7)) ?_
   rintro _ w8 ⟨v8, rfl, ov, b8⟩
   obtain ⟨A8, c8, hv⟩ := ov.form
   subst hv
   have hS8 : Blk w8 w.heap.size 42 cl ∧ Blk w8 g3 37 R := ⟨hS.1.below b8 hS.1.lt, hS.2.below b8 hS.2.lt⟩
   have HD8 := below_then HD7 HD7.size b8
   have oh8 := Hh (LOwn.below (R' := HstO w0 w8) oh b8 (fun _ _ x => x.below b8))
   have ov8 := Hh (LOwn.zero ov)
   refine ⟨_, rfl, hS8, ?_⟩
   clear hS hS7 oh ov HD HD7
   have hS := hS8
   simp only [Act.put, lsA, lsB, lsC]
   generalize (heldH hs).length = n7 at *
   generalize s5.length = n8 at *
   refine held_seq hS 1 [11] rfl (by kernel_rfl) (fun _ _ _ _ _ h => h) rfl rfl ?_
   (refine ⟨_, (.agg (R ++ [Value.slice A7 n7 c7, Value.slice A5 n4 c5, Value.slice A8 n8 c8]).toArray), rfl, .inl ⟨rfl, fun V hV => (exec_bldH 42 _ rfl #[(0, .agg R.toArray), (1, .slice A7 n7 c7), (2, .slice A5 n4 c5), (3, .slice A8 n8 c8)] (by kernel_rfl) (RB.out A7 A5 A8 n7 c7 n4 c5 n8 c8 V))⟩, ?_⟩; simp only [Act.put, lsA, lsB, lsC])
   simp only [SeqC]
   have hone : ∀ v ∈ R ++ [Value.slice A7 n7 c7, Value.slice A5 n4 c5, Value.slice A8 n8 c8], v.oneCell' = true := by
    intro v hv
    rcases List.mem_append.1 hv with h | h
    ·
     exact RON.out v h
    ·
     simp only [List.mem_cons, List.not_mem_nil, or_false] at h
     rcases h with rfl | rfl | rfl <;> rfl
   have hfl : (R ++ [Value.slice A7 n7 c7, Value.slice A5 n4 c5, Value.slice A8 n8 c8]).length = 13 := by simp [hRl]
   have Q8 := Q2.below HD8 Q2.lt
   refine held_stB 12 none 42 (.tmp 2) (.tmp 56) (by kernel_rfl) rfl rfl rfl (by kernel_rfl) g2 0 rfl (R ++ [Value.slice A7 n7 c7, Value.slice A5 n4 c5, Value.slice A8 n8 c8]) rfl Q8 (by omega) (by rw [hfl]; exact cfgI13) hone ?_
   intro w9 B9 g9 s9
   rw [List.take_zero, List.nil_append, Nat.zero_add] at B9
   have B9' := blkAll B9 (by omega)
   have H9 := below_grown (below_then H6 H6.size HD8) g9 (by have := H6.size; have := HD8.size; omega) (Nat.le_of_lt h12)
   have RF : Hid (RsO w0 w9 R (heldR ⟨svs, ses, sos, nd, tmo, att, ro, vc, si, ed⟩)) := Hh (by
    rw [HR.out]
    exact ⟨_, _, _, hR.out, (LOwn.below (R' := AdI) RO6.out.1 HD8 (fun _ _ h => h)).blk g9 Q8 (by decide), (LOwn.below (R' := NmI w0) RO6.out.2.1 HD8 (fun _ _ h => h)).blk g9 Q8 (by decide), (LOwn.below (R' := PfI) RO6.out.2.2 HD8 (fun _ _ h => h)).blk g9 Q8 (by decide)⟩)
   have RH := Hh (LOwn.below (R' := HstO w0 w9) (oh8.out.blk g9 Q8 (by decide)) (Below.refl _ _) (fun _ _ x => x.blkT g9 Q8 (by decide)))
   have RV := Hh (ov8.out.blk g9 Q8 (by decide))
   have RS := Hh ((LOwn.below (R' := SrcI) o5 HD8 (fun _ _ h => h)).blk g9 Q8 (by decide))
   refine ⟨⟨hS.1.grown g9 (by simp; omega), hS.2.grown g9 (by simp; omega)⟩, ?_⟩
   simp only [Act.put, lsA, lsB, lsC]
   refine wpAnyH_done (by kernel_rfl) ?_ _
   clear RO6 RON RB HH LV oh8 ov8 o5 hS hS8 Q1 Q2 Q3 Q8 HR hR
   go_wp2_with fail
   refine ret_cell rfl g2 rfl B9' _ underlying42 rfl (by rw [hfl]; exact cfgI13) rfl ?_
   exact ⟨R, _, _, _, rfl, RF.out, RH.out, by rw [hS4.out]; exact RS.out, RV.out, H9⟩
theorem heldC_any (w0 : World) (cs : List Value) (r : Rs) (Ah As Asv : Option Addr) (ch cS csv : Nat) (hs : List Hst) (ss : List Src) (vs : List Svc) (w : World) (h : RsIn w0 w cs r) (hw : Below w0.heap.size w0 w)
  (hH : LIn w0 19 (HstI w0) Ah hs) (hhl : hs.length ≤ 100) (hhn : ∀ h ∈ hs, h.ns.length ≤ 100) (hSr : LIn w 5 SrcI As ss) (hsl : ss.length ≤ 17592186044416) (hSv : LIn w0 3 SvcI Asv vs) (hvl : vs.length ≤ 1000) :
  Calls prog 19 #[.agg (cs ++ [Value.slice Ah hs.length ch, Value.slice As ss.length cS, Value.slice Asv vs.length csv]).toArray] w (HeldCRet w0 r hs ss w) := by
 refine (heldS_any w0 cs r Ah As Asv ch cS csv hs ss vs w h hw hH hhl hhn hSr hsl hSv hvl).mono ?_
 rintro e w' ⟨cs', v1, v2, v3, h1, h2, h3, h4, h5, h6⟩
 obtain ⟨A, c, rfl⟩ := h5.form
 exact ⟨cs', v1, v2, _, h1, h2, h3, h4, rfl, h6⟩
theorem setHeld_in (w0 : World) (cs : List Value) (r : Rs) (w : World) (h : RsIn w0 w cs r) (hw : Below w0.heap.size w0 w) : Calls prog 19 #[.agg (cs ++ [nilS, nilS, nilS]).toArray] w (HeldRet w0 r w) := by
 refine (heldC_any w0 cs r none none none 0 0 0 [] [] [] w h hw (fun c => absurd c (Nat.lt_irrefl 0)) (Nat.zero_le _) (fun h hh => by cases hh) (fun c => absurd c (Nat.lt_irrefl 0)) (Nat.zero_le _) (fun c => absurd c (Nat.lt_irrefl 0)) (Nat.zero_le _)).mono ?_
 rintro e w' ⟨cs', v1, v2, v3, h1, h2, _, _, _, h3⟩
 exact ⟨cs', v1, v2, v3, h1, h2, h3⟩
theorem setHeld_any (w0 : World) (cs : List Value) (r : Rs) (w : World) (h : RsIs w0 cs r) (hw : Below w0.heap.size w0 w) : Calls prog 19 #[.agg (cs ++ [nilS, nilS, nilS]).toArray] w (HeldRet w0 r w) := setHeld_in w0 cs r w (h.rsIn hw) hw
end Go.Proofs.YteimenplbanooaaGreatDoor
