/-
  Layer 42: hints.kinds.
-/
import Derived.Test.YteimenplbanooaaGreatDoorRAZq
namespace Go.Proofs.YteimenplbanooaaGreatDoor
open _root_.Go.Proofs.Tryz
open Go.RowKit
set_option maxRecDepth 100000
set_option linter.unusedVariables false
set_option linter.unusedSimpArgs false
def kdL (st : Int) : List Int := if st = 2 then [2] else [1, 2]
def numsV (ks : List Int) : List Value := ks.map (fun n => Value.int .i64 n)
def KdRet (ks : List Int) (w : World) (e : Ending) (w' : World) : Prop := ∃ g, e = .returned (.slice (some ⟨g, 0, none⟩) ks.length ks.length) ∧ Blk w' g 3 (numsV ks) ∧ Below w.heap.size w w'
theorem hkinds_any (fl fam st : Int) (h : H3 fl fam st) (w : World) : Calls prog 83 #[hiC fl fam st] w (KdRet (kdL st) w) := by
 rcases h with ⟨rfl, rfl, rfl⟩ | ⟨rfl, rfl, rfl⟩ | ⟨rfl, rfl, rfl⟩
 ·
  unfold hiC
  go_enter func83, ntmps83
  go_wp2_with fail
  go_ret
  exact ⟨w.heap.size + 1, rfl, Blk.new' (w.alloc (.cells #[.int .i64 0, .int .i64 0, .int .i64 0] 55)) 3 [.int .i64 1, .int .i64 2] (w.heap.size + 1) (by rw [World.size_alloc]), ((Below.refl _ _).alloc (Nat.le_refl _) _).alloc (by simp) _⟩
 ·
  unfold hiC
  go_enter func83, ntmps83
  go_wp2_with fail
  go_ret
  exact ⟨w.heap.size + 1, rfl, Blk.new' (w.alloc (.cells #[.int .i64 0, .int .i64 4, .int .i64 0] 55)) 3 [.int .i64 1, .int .i64 2] (w.heap.size + 1) (by rw [World.size_alloc]), ((Below.refl _ _).alloc (Nat.le_refl _) _).alloc (by simp) _⟩
 ·
  unfold hiC
  go_enter func83, ntmps83
  go_wp2_with fail
  go_ret
  exact ⟨w.heap.size + 1, rfl, Blk.new' (w.alloc (.cells #[.int .i64 12, .int .i64 0, .int .i64 2] 55)) 3 [.int .i64 2] (w.heap.size + 1) (by rw [World.size_alloc]), ((Below.refl _ _).alloc (Nat.le_refl _) _).alloc (by simp) _⟩
def portC (p : Int) (ks : List Int) : List Value := ks.flatMap (fun k => [.int .i64 p, .int .i64 k])
theorem portC_snoc (p : Int) (ks : List Int) (k : Int) : portC p (ks ++ [k]) = portC p ks ++ [.int .i64 p, .int .i64 k] := by simp [portC]
theorem portI3 : (prog.info? 170).map (fun i => (i.zero, i.size, i.bytes)) = some (some (.agg #[.int .i64 0, .int .i64 0]), 2, 16) := by kernel_rfl
theorem new_2 (w : World) (u v : Value) (t : TypeId) (k : Nat) (hk : k = w.heap.size) : ∀ j x, [u, v][j]? = some x → (w.alloc (.cells #[u, v] t)).cell? ((⟨k, 0, none⟩ : Addr).add j) = some x := by
 subst hk
 intro j x hx
 rcases j with _ | _ | j
 ·
  simp at hx; subst hx; simp [Addr.add, go_sem]
 ·
  simp at hx; subst hx; simp [Addr.add, go_sem]
 ·
  simp at hx
def PoRet (p : Int) (ks : List Int) (w : World) (e : Ending) (w' : World) : Prop := ∃ v, e = .returned (.tuple #[v, .int .i64 0]) ∧ w'.ownsRow w.heap.size 170 2 v ks.length (portC p ks) ∧ Below w.heap.size w w'
set_option maxHeartbeats 2000000 in
theorem ports_any (fl fam st : Int) (h : H3 fl fam st) (s : List UInt8) (p : Int) (hS : (s = [] ∧ p = 0) ∨ (s.isEmpty = false ∧ ∀ V, Calls prog 82 #[.string (bs s), .int .i64 65535] V (Ret (.tuple #[.int .i64 p, .int .i64 0]) V))) (A : Option Addr) (n c : Nat) (w : World) : Calls prog 31 #[.slice A n c, .string (bs s), hiC fl fam st] w (PoRet p (kdL st) w) := by
 have KD := Hh (fun V => hkinds_any fl fam st h V)
 have hkl : 0 < (kdL st).length := by unfold kdL; split <;> decide
 have hk9 : (kdL st).length ≤ 2 := by unfold kdL; split <;> decide
 have C0 : Below w.heap.size w (w.alloc (.cells #[.int .i64 fl, .int .i64 fam, .int .i64 st] 55)) := (Below.refl _ _).alloc (Nat.le_refl _) _
 generalize kdL st = ks at *
 unfold hiC at KD ⊢
 clear h
 rcases hS with ⟨rfl, rfl⟩ | ⟨hne, NM'⟩
 case inl =>
  go_enter func31, ntmps31
  go_wp2_with fail
  refine (KD.out _).mono ?_
  rintro _ w2 ⟨g, rfl, hK, b2⟩
  have S2 := below_then C0 C0.size b2
  clear KD C0 b2
  go_wp2_with fail
  go_loopw [10, 36] (fun gv iv wr => ∃ k : Nat, k ≤ ks.length ∧ iv = .int .i64 k ∧ wr.ownsRow w.heap.size 170 2 gv k (portC 0 (ks.take k)) ∧ Blk wr g 3 (numsV ks) ∧ Below w.heap.size w wr) (fun _ iv _ => ks.length - (intOf iv).toNat)
  case atStart => exact ⟨0, Nat.zero_le _, rfl, World.ownsRow_nil _ _ _ _, hK, S2⟩
  clear hK S2
  obtain ⟨k, hk, rfl, ho, hK, S⟩ := hrel
  by_cases hlt : k < ks.length
  case pos =>
   have hlt' : (k : Int) < ks.length := by omega
   have hKl := hK.lt
   have ck := hK.cell_ k (u := .int .i64 ks[k]) (by simp [numsV, hlt])
   have HPS : Hid (portC 0 (ks.take (k + 1)) = portC 0 (ks.take k) ++ [.int .i64 0, .int .i64 ks[k]]) := Hh (by rw [List.take_succ_eq_append_getElem hlt, portC_snoc])
   generalize ks[k] = x at *
   generalize portC 0 (ks.take k) = xs at *
   have HO := Hh ho
   have HK := Hh hK
   clear ho hK
   go_wp2_with (at_builtin; go_must (refine wpList_appB _ rfl (.tmp 42) (.tmp 46) 97 rfl 170 (.agg #[.int .i64 0, .int .i64 0]) 2 16 underlying97 portI3 rfl (by decide) w.heap.size _ k _ rfl (World.ownsRow.alloc HO.out _) (by have := S.size; simp; omega) _ 1 1 [.int .i64 0, .int .i64 x] rfl rfl (new_2 _ _ _ _ _ rfl) (fun u hu => by simp at hu; rcases hu with rfl | rfl <;> rfl) (by decide) (by simp only [maxLen]; omega) (by omega) ?_))
   intro g3 cap3 w3 hb3 hgr3 hlt3
   have S3 := Hh (below_own (S.alloc S.size _) (by have := S.size; simp; omega) (World.ownsRow.alloc HO.out _) hgr3)
   have HB3 : Hid (w3.ownsRow w.heap.size 170 2 (.slice (some ⟨g3, 0, none⟩) (k + 1) cap3) (k + 1) (portC 0 (ks.take (k + 1)))) := Hh (by rw [HPS.out]; exact hb3)
   have HK3 : Hid (Blk w3 g 3 (numsV ks)) := Hh (by
    refine (HK.out.alloc _).grown hgr3 (fun e => ?_)
    rcases HO.out.2 with ⟨e2, _⟩ | ⟨go, cap, cur, e2, _, hgo, _⟩
    ·
     rw [e2] at e; cases e
    ·
     rw [e2] at e
     injection e with e
     have hh : wr.heap[go]? = some (.cells (numsV ks).toArray 3 (0, 0)) := by have h1 := HK.out; unfold Blk at h1; rw [e] at h1; exact h1
     have h2 := hh.symm.trans hgo
     injection h2 with h2
     injection h2 with _ h3 _
     cases h3)
   clear hb3 hgr3 HO HK S HPS
   go_wp2_with fail
   go_roundw
   case rel => exact ⟨k + 1, by omega, by go_num, HB3.out, HK3.out, S3.out⟩
   case measure => simp [intOf]; omega
  obtain rfl : k = ks.length := by omega
  have hlt' : ¬ (ks.length : Int) < ks.length := by omega
  have hpos : (0 : Int) < ks.length := by omega
  rw [List.take_of_length_le (Nat.le_refl _)] at ho
  obtain ⟨Av, cv, rfl⟩ : ∃ A c, u10 = .slice A ks.length c := by
   rcases ho.2 with ⟨e, e2⟩ | ⟨g', cap, cur, e, _⟩
   ·
    omega
   ·
    exact ⟨_, _, e⟩
  have HO := Hh ho
  clear ho hK
  go_wp2_with fail
  go_ret2
  exact ⟨_, rfl, HO.out, S⟩
 case inr =>
  have NM := Hh NM'
  clear NM'
  go_enter func31, ntmps31
  go_wp2_with fail
  refine (NM.out _).mono ?_
  rintro _ _ ⟨rfl, rfl⟩
  clear NM
  go_wp2_with fail
  refine (KD.out _).mono ?_
  rintro _ w2 ⟨g, rfl, hK, b2⟩
  have S2 := below_then C0 C0.size b2
  clear KD C0 b2
  go_wp2_with fail
  go_loopw [10, 36] (fun gv iv wr => ∃ k : Nat, k ≤ ks.length ∧ iv = .int .i64 k ∧ wr.ownsRow w.heap.size 170 2 gv k (portC p (ks.take k)) ∧ Blk wr g 3 (numsV ks) ∧ Below w.heap.size w wr) (fun _ iv _ => ks.length - (intOf iv).toNat)
  case atStart => exact ⟨0, Nat.zero_le _, rfl, World.ownsRow_nil _ _ _ _, hK, S2⟩
  clear hK S2
  obtain ⟨k, hk, rfl, ho, hK, S⟩ := hrel
  by_cases hlt : k < ks.length
  case pos =>
   have hlt' : (k : Int) < ks.length := by omega
   have hKl := hK.lt
   have ck := hK.cell_ k (u := .int .i64 ks[k]) (by simp [numsV, hlt])
   have HPS : Hid (portC p (ks.take (k + 1)) = portC p (ks.take k) ++ [.int .i64 p, .int .i64 ks[k]]) := Hh (by rw [List.take_succ_eq_append_getElem hlt, portC_snoc])
   generalize ks[k] = x at *
   generalize portC p (ks.take k) = xs at *
   have HO := Hh ho
   have HK := Hh hK
   clear ho hK
   go_wp2_with (at_builtin; go_must (refine wpList_appB _ rfl (.tmp 42) (.tmp 46) 97 rfl 170 (.agg #[.int .i64 0, .int .i64 0]) 2 16 underlying97 portI3 rfl (by decide) w.heap.size _ k _ rfl (World.ownsRow.alloc HO.out _) (by have := S.size; simp; omega) _ 1 1 [.int .i64 p, .int .i64 x] rfl rfl (new_2 _ _ _ _ _ rfl) (fun u hu => by simp at hu; rcases hu with rfl | rfl <;> rfl) (by decide) (by simp only [maxLen]; omega) (by omega) ?_))
   intro g3 cap3 w3 hb3 hgr3 hlt3
   have S3 := Hh (below_own (S.alloc S.size _) (by have := S.size; simp; omega) (World.ownsRow.alloc HO.out _) hgr3)
   have HB3 : Hid (w3.ownsRow w.heap.size 170 2 (.slice (some ⟨g3, 0, none⟩) (k + 1) cap3) (k + 1) (portC p (ks.take (k + 1)))) := Hh (by rw [HPS.out]; exact hb3)
   have HK3 : Hid (Blk w3 g 3 (numsV ks)) := Hh (by
    refine (HK.out.alloc _).grown hgr3 (fun e => ?_)
    rcases HO.out.2 with ⟨e2, _⟩ | ⟨go, cap, cur, e2, _, hgo, _⟩
    ·
     rw [e2] at e; cases e
    ·
     rw [e2] at e
     injection e with e
     have hh : wr.heap[go]? = some (.cells (numsV ks).toArray 3 (0, 0)) := by have h1 := HK.out; unfold Blk at h1; rw [e] at h1; exact h1
     have h2 := hh.symm.trans hgo
     injection h2 with h2
     injection h2 with _ h3 _
     cases h3)
   clear hb3 hgr3 HO HK S HPS
   go_wp2_with fail
   go_roundw
   case rel => exact ⟨k + 1, by omega, by go_num, HB3.out, HK3.out, S3.out⟩
   case measure => simp [intOf]; omega
  obtain rfl : k = ks.length := by omega
  have hlt' : ¬ (ks.length : Int) < ks.length := by omega
  have hpos : (0 : Int) < ks.length := by omega
  rw [List.take_of_length_le (Nat.le_refl _)] at ho
  obtain ⟨Av, cv, rfl⟩ : ∃ A c, u10 = .slice A ks.length c := by
   rcases ho.2 with ⟨e, e2⟩ | ⟨g', cap, cur, e, _⟩
   ·
    omega
   ·
    exact ⟨_, _, e⟩
  have HO := Hh ho
  clear ho hK
  go_wp2_with fail
  go_ret2
  exact ⟨_, rfl, HO.out, S⟩
def LitRet (a : Adr) (w : World) (e : Ending) (w' : World) : Prop := ∃ g, e = .returned (.tuple #[.slice (some ⟨g, 0, none⟩) 1 1, .int .i64 0, .bool true]) ∧ w.heap.size ≤ g ∧ Blk w' g 24 a.cells ∧ Below w.heap.size w w'
set_option maxHeartbeats 1000000 in
theorem hlit_any (fl st : Int) (a : Adr) (h16 : a.ip.length = 16) (hf : a.fam = 4 ∨ a.fam = 6) (T : List UInt8) (w : World) (hQ : ∀ V, Below w.heap.size w V → Calls prog 86 #[.string (bs T)] V (RetB (.tuple #[.agg a.cells.toArray, .int .i64 0]) V)) : Calls prog 34 #[.string (bs T), hiC fl 0 st] w (LitRet a w) := by
 have QP := Hh hQ
 have hql : a.cells.length = 18 := a.cells_len h16
 have hqo : ∀ v ∈ a.cells, v.oneCell' = true := a.cells_one
 have hc0 : a.cells[0]? = some (.int .i64 a.fam) := rfl
 obtain ⟨qc, hqc⟩ : ∃ qc, Hid (a.cells = qc) := ⟨_, Hh rfl⟩
 obtain ⟨f, hff⟩ : ∃ f, Hid (a.fam = f) := ⟨_, Hh rfl⟩
 rw [hff.out] at hc0 hf
 unfold LitRet
 rw [hqc.out] at QP hql hqo hc0 ⊢
 have B0 : Blk (w.alloc (.cells #[.int .i64 fl, .int .i64 0, .int .i64 st] 55)) w.heap.size 55 [.int .i64 fl, .int .i64 0, .int .i64 st] := Blk.new w _ [.int .i64 fl, .int .i64 0, .int .i64 st]
 have BB : Below w.heap.size w (w.alloc (.cells #[.int .i64 fl, .int .i64 0, .int .i64 st] 55)) := (Below.refl _ _).alloc (Nat.le_refl _) _
 clear hqc hff hQ
 unfold hiC
 go_enter func34, ntmps34
 go_wp2_with fail
 refine (QP.out _ BB).mono ?_
 rintro _ w2 ⟨rfl, b1⟩
 have Y0 := B0.below b1 B0.lt
 have S2 := below_then BB BB.size b1
 have Z2 := Blk.newA w2 _ rfl
 clear QP B0 BB b1
 go_wp2_with (refine at_op (.store 24 (.tmp 7) (.tmp 12)) rfl ?_; go_must (refine wpList_stB rfl _ _ _ rfl w2.heap.size 0 rfl qc rfl Z2 (by rw [hql]; exact Nat.le_refl 18) (by rw [hql]; exact adrInfo) hqo ?_))
 intro w6 B6 g6 e6
 have S3 := S2.alloc S2.size (.cells adrZ.toArray 24)
 have X6 := blkAll B6 (by have : adrZ.length = 18 := rfl; omega)
 have S6 := below_grown S3 g6 (by have := S2.size; simp; omega) S2.size
 have Y6 := (Y0.alloc (.cells adrZ.toArray 24)).grown g6 (fun e => by injection e with e; have := Y0.lt; omega)
 clear B6 g6 Z2 S2 S3 Y0
 have d0 := X6.cell_ 0 hc0
 have d1 : w6.cell? ⟨w.heap.size, 1, none⟩ = some (.int .i64 0) := Y6.cell_ 1 rfl
 have X7 := X6
 rcases hf with rfl | rfl
 all_goals
  go_wp2_with (first
   | (refine at_op (.load 24 (.tmp 7)) rfl ?_; go_must (refine wpList_ldB rfl _ _ rfl w2.heap.size 0 rfl X6 18 (by omega) _ underlying24 rfl adrInfo qc (tk0 (by omega)) ?_))
   | (refine at_op (.buildSlice 33 1 #[(0, .tmp 45)]) rfl ?_; go_must (refine wpList_bsG rfl 33 24 _ 18 32 underlying33 adInfo3 (by decide) (by decide) (.tmp 45) rfl qc rfl hql ?_)))
  go_ret3
  refine ⟨_, rfl, by have := S6.size; omega, ?_, S6.alloc S6.size _⟩
  rw [show w2.heap.size + 1 = w6.heap.size by omega]
  exact Blk.new _ _ _
theorem iI3 : (prog.info? 57).map (fun i => (i.zero, i.size, i.bytes)) = some (some (.agg (infC ⟨Adr.zero, 0, 0⟩).toArray), 20, 48) := by kernel_rfl
theorem portI2 : (prog.info? 170).map (·.size) = some 2 := by kernel_rfl
theorem new_l (w : World) (t : TypeId) (cs : List Value) (j : Nat) (x : Value) (h : cs[j]? = some x) : (w.alloc (.cells cs.toArray t)).cell? ((⟨w.heap.size, 0, none⟩ : Addr).add j) = some x := by
 have e : (⟨w.heap.size, 0, none⟩ : Addr).add j = ⟨w.heap.size, j, none⟩ := by
  unfold Addr.add
  split
  ·
   rename_i h0; subst h0; rfl
  ·
   simp
 rw [e]
 exact (Blk.new w t cs).cell_ j h
def infR (a : Adr) (p : Int) (ks : List Int) : List Value := ks.flatMap (fun k => infC ⟨a, p, k⟩)
theorem infR_snoc (a : Adr) (p : Int) (ks : List Int) (k : Int) : infR a p (ks ++ [k]) = infR a p ks ++ infC ⟨a, p, k⟩ := by simp [infR]
theorem inf_bld (a : Adr) (h16 : a.ip.length = 16) (p k : Int) (V : World) : (Instr.build 57 #[(0, .agg a.cells.toArray), (1, .int .i64 p), (2, .int .i64 k)]).run prog V = .ok (.agg (infC ⟨a, p, k⟩).toArray) V := by
 obtain ⟨f, ip, z⟩ := a
 match ip, h16 with
 | [b0, b1, b2, b3, b4, b5, b6, b7, b8, b9, b10, b11, b12, b13, b14, b15], _ =>
  show _ = _
  kernel_rfl
def InRet (a : Adr) (p : Int) (ks : List Int) (w : World) (e : Ending) (w' : World) : Prop := ∃ v, e = .returned v ∧ w'.ownsRow w.heap.size 57 20 v ks.length (infR a p ks) ∧ Below w.heap.size w w'
set_option maxHeartbeats 2000000 in
theorem infos_any (a : Adr) (h16 : a.ip.length = 16) (p : Int) (ks : List Int) (hk2 : ks.length ≤ 2) (ga oa gp op : Nat) (ca cp : Nat) (w : World) (hA : ∀ i, i < 1 → w.rangeAt ga (oa + i * 18) a.cells) (hga : ga < w.heap.size) (hP : ∀ k (h : k < ks.length), w.rangeAt gp (op + k * 2) [.int .i64 p, .int .i64 ks[k]]) (hgp : gp < w.heap.size) : Calls prog 32 #[.slice (some ⟨ga, oa, none⟩) 1 ca, .slice (some ⟨gp, op, none⟩) ks.length cp] w (InRet a p ks w) := by
 have HA := Hh (fun i (h : i < 1) V (hV : Below w.heap.size w V) => range_below (hA i h) hV hga)
 have HP := Hh (fun k (h : k < ks.length) V (hV : Below w.heap.size w V) => range_below (hP k h) hV hgp)
 have HB := Hh (fun k V => inf_bld a h16 p k V)
 have hql : a.cells.length = 18 := a.cells_len h16
 have hqo : ∀ v ∈ a.cells, v.oneCell' = true := a.cells_one
 have HIL := Hh (fun k => infC_len (x := ⟨a, p, k⟩) h16)
 have HIO : Hid (∀ k, ∀ v ∈ infC ⟨a, p, k⟩, v.oneCell' = true) := Hh (fun k v hv => by
  unfold infC at hv
  rcases List.mem_append.1 hv with hv | hv
  ·
   exact hqo v hv
  ·
   simp at hv; rcases hv with rfl | rfl <;> rfl)
 have HSN := Hh (fun ks k => infR_snoc a p ks k)
 unfold InRet
 have HN : infR a p [] = [] := rfl
 generalize infR a p = IR at *
 generalize hIC : (fun k => infC ⟨a, p, k⟩) = IC at *
 have HIC : ∀ k, infC ⟨a, p, k⟩ = IC k := fun k => congrFun hIC k
 simp only [HIC] at HB HIL HIO HSN
 clear hIC HIC hA hP
 generalize a.cells = qc at *
 have hadz : adrZ.length = 18 := rfl
 go_enter func32, ntmps32
 go_wp2_with fail
 go_loopw [5, 12] (fun lv iv wr => ∃ i : Nat, i ≤ 1 ∧ iv = .int .i64 i ∧ wr.ownsRow w.heap.size 57 20 lv (i * ks.length) (if i = 0 then [] else IR ks) ∧ Below w.heap.size w wr) (fun _ iv _ => 1 - (intOf iv).toNat)
 case atStart => exact ⟨0, Nat.zero_le _, rfl, by rw [Nat.zero_mul]; exact World.ownsRow_nil _ _ _ _, Below.refl _ _⟩
 obtain ⟨i, hi, rfl, ho, S⟩ := hrel
 by_cases hlt : i < 1
 case neg =>
  obtain rfl : i = 1 := by omega
  rw [Nat.one_mul, if_neg (by decide)] at ho
  have HO := Hh ho
  clear ho
  go_wp2_with fail
  go_ret
  exact ⟨_, rfl, HO.out, S⟩
 have hlt' : (i : Int) < 1 := by omega
 have hi0 : Hid (i = 0) := Hh (by omega)
 rw [show i * ks.length = 0 by rw [hi0.out, Nat.zero_mul], if_pos hi0.out] at ho
 have hcs := HA.out i hlt wr S
 have HO := Hh ho
 clear ho HA
 go_wp2_with (first
  | (refine at_op (.load 24 (.tmp 14)) rfl ?_; go_must (refine wpList_ldR rfl 24 (.tmp 14) rfl ga (oa + i * 18) rfl qc hcs _ underlying24 rfl (by rw [hql]; exact adrInfo) ?_))
  | (refine at_op (.store 24 (.tmp 7) (.tmp 15)) rfl ?_; go_must (refine wpList_stB rfl _ _ _ rfl wr.heap.size 0 rfl qc rfl (Blk.new wr 24 adrZ) (by rw [hadz, hql]; decide) (by rw [hql]; exact adrInfo) hqo ?_)))
 intro w1 B1 g1 e1
 clear e1
 have X1 := Hh (blkAll B1 (by omega))
 have S1 := below_grown (S.alloc S.size (.cells adrZ.toArray 24)) g1 (by have := S.size; simp; omega) S.size
 have T1 := below_grown ((Below.refl _ wr).alloc (Nat.le_refl _) (.cells adrZ.toArray 24)) g1 (by simp) (Nat.le_refl _)
 have lw : Hid (wr.heap.size < w1.heap.size) := Hh X1.out.lt
 clear B1 g1 hcs
 have HO1 := Hh (own_below HO.out T1)
 clear HO T1
 go_wp2_with fail
 go_loopw [5, 18] (fun lv jv Wj => ∃ j : Nat, j ≤ ks.length ∧ jv = .int .i64 j ∧ Wj.ownsRow w.heap.size 57 20 lv j (IR (ks.take j)) ∧ Blk Wj wr.heap.size 24 qc ∧ Below w.heap.size w Wj) (fun _ jv _ => ks.length - (intOf jv).toNat)
 case atStart => exact ⟨0, Nat.zero_le _, rfl, by rw [List.take_zero, HN]; exact HO1.out, X1.out, S1⟩
 clear X1 HO1 S1 S
 obtain ⟨j, hj, rfl, ho, hX, S⟩ := hrel
 rename World => Wj
 by_cases hjlt : j < ks.length
 case neg =>
  have hjlt' : ¬ (j : Int) < ks.length := by omega
  obtain rfl : j = ks.length := by omega
  rw [List.take_of_length_le (Nat.le_refl _)] at ho
  have HO := Hh ho
  clear ho
  go_wp2_with fail
  go_roundw
  case rel => exact ⟨i + 1, by omega, by go_num, by rw [hi0.out, Nat.zero_add, Nat.one_mul, if_neg (by decide)]; exact HO.out, S⟩
  case measure => simp [intOf]; omega
 have hjlt' : (j : Int) < ks.length := by omega
 have hps := HP.out j hjlt _ S
 have HPS : Hid (IR (ks.take (j + 1)) = IR (ks.take j) ++ IC ks[j]) := Hh (by rw [List.take_succ_eq_append_getElem hjlt, HSN.out])
 generalize ks[j] = x at *
 generalize IR (ks.take j) = xs at *
 have HO := Hh ho
 have HX := Hh hX
 have ZP := Blk.new Wj 170 [.int .i64 0, .int .i64 0]
 clear ho hX HP HSN
 go_wp2_with (first
  | (refine at_op (.load 170 (.tmp 20)) rfl ?_; go_must (refine wpList_ldR rfl 170 (.tmp 20) rfl gp (op + j * 2) rfl [.int .i64 p, .int .i64 x] hps _ underlying170 rfl portI2 ?_))
  | (refine at_op (.store 170 (.tmp 9) (.tmp 21)) rfl ?_; go_must (refine wpList_stB rfl _ _ _ rfl Wj.heap.size 0 rfl [.int .i64 p, .int .i64 x] rfl ZP (by simp) portI2 (fun u hu => by simp at hu; rcases hu with rfl | rfl <;> rfl) ?_)))
 intro w3 B3 g3 e3
 clear e3
 have X3 : Blk w3 Wj.heap.size 170 [.int .i64 p, .int .i64 x] := B3
 have S3 := below_grown (S.alloc S.size (.cells [.int .i64 0, .int .i64 0].toArray 170)) g3 (by have := S.size; simp; omega) S.size
 have T3 := below_grown ((Below.refl _ Wj).alloc (Nat.le_refl _) (.cells [.int .i64 0, .int .i64 0].toArray 170)) g3 (by simp) (Nat.le_refl _)
 have HO3 := Hh (own_below HO.out T3)
 have A3 := HX.out.below T3 HX.out.lt
 have d0 : w3.cell? ⟨Wj.heap.size, 0, none⟩ = some (.int .i64 p) := X3.cell_ 0 rfl
 have d1 : w3.cell? ⟨Wj.heap.size, 1, none⟩ = some (.int .i64 x) := X3.cell_ 1 rfl
 have BL := Hh (HB.out x)
 have icl := HIL.out x
 have ico := HIO.out x
 clear HB HIL HIO HO HX T3 B3 g3 ZP S X3 hps
 generalize IC x = ic at *
 go_wp2_with (first
  | (refine at_op (.load 24 (.tmp 7)) rfl ?_; go_must (refine wpList_ldB rfl _ _ rfl wr.heap.size 0 rfl A3 18 (by omega) _ underlying24 rfl adrInfo qc (tk0 (by omega)) ?_))
  | (refine at_op (.build 57 #[(0, .tmp 23), (1, .tmp 25), (2, .tmp 27)]) rfl ?_; go_must (refine wpList_bld rfl 57 #[(0, .tmp 23), (1, .tmp 25), (2, .tmp 27)] rfl #[(0, .agg qc.toArray), (1, .int .i64 p), (2, .int .i64 x)] (by go_simp) (BL.out _) ?_))
  | (refine at_op (.buildSlice 43 1 #[(0, .tmp 28)]) rfl ?_; go_must (refine wpList_bsG rfl 43 57 _ 20 48 underlying43 iI3 (by decide) (by decide) (.tmp 28) rfl ic rfl icl ?_))
  | (at_builtin; go_must (refine wpList_appB _ rfl (.tmp 22) (.tmp 29) 43 rfl 57 (.agg (infC ⟨Adr.zero, 0, 0⟩).toArray) 20 48 underlying43 iI3 (by kernel_rfl) (by decide) w.heap.size _ j _ rfl (World.ownsRow.alloc HO3.out _) (by have := S3.size; simp; omega) _ 1 1 ic rfl (by rw [icl]) (fun n u hu => new_l w3 57 ic n u hu) ico (by decide) (by simp only [maxLen]; omega) (by omega) ?_)))
 intro g4 cap4 w4 hb4 hgr4 hlt4
 have S4 := below_own (S3.alloc S3.size _) (by have := S3.size; simp; omega) (World.ownsRow.alloc HO3.out _) hgr4
 have A4 : Blk w4 wr.heap.size 24 qc := by
  refine (A3.alloc _).grown hgr4 (fun e => ?_)
  rcases HO3.out.2 with ⟨e2, _⟩ | ⟨go, cap, cur, e2, _, hgo, _⟩
  ·
   rw [e2] at e; cases e
  ·
   rw [e2] at e
   injection e with e
   have hh : w3.heap[go]? = some (.cells qc.toArray 24 (0, 0)) := by have h1 := A3; unfold Blk at h1; rw [e] at h1; exact h1
   have h2 := hh.symm.trans hgo
   injection h2 with h2
   injection h2 with _ h3 _
   cases h3
 have HB4 := Hh hb4
 rw [← HPS.out] at HB4
 clear hb4 hgr4 HO3 A3 S3 BL HPS d0 d1
 go_wp2_with fail
 go_roundw
 case rel => exact ⟨j + 1, by omega, by go_num, HB4.out, A4, S4⟩
 case measure => simp [intOf]; omega
theorem Blk.newK (w : World) (t : TypeId) (cs : List Value) (k : Nat) (hk : k = w.heap.size) : Blk (w.alloc (.cells cs.toArray t)) k t cs := by
 subst hk
 exact Blk.new w t cs
def zrC (code : Int) (A : Option Addr) (n c : Nat) (cn ho se : List UInt8) : List Value := [.int .i64 code, .slice A n c, .string (bs cn), .string (bs ho), .string (bs se), .slice none 0 0]
theorem sover_any (code : Int) (A : Option Addr) (n c : Nat) (cn ho se : List UInt8) (w : World) : Calls prog 20 #[.agg (zrC code A n c cn ho se).toArray] w (fun e w' => ∃ g, e = .returned (.pointer (some ⟨g, 0, none⟩)) ∧ w.heap.size ≤ g ∧ Blk w' g 91 ([.nilIface, .nilFunc, .bool true] ++ zrC code A n c cn ho se) ∧ Below w.heap.size w w') := by
 unfold zrC
 go_enter func20, ntmps20
 go_wp2_with fail
 go_ret
 refine ⟨_, rfl, ?_, Blk.newK _ _ _ _ (by simp), ?_⟩
 ·
  simp
 ·
  exact ((Below.refl _ _).alloc (Nat.le_refl _) _).alloc (by simp) _
section
variable {w : World} {g : Nat} {rc : List Value} {iv fv : Value} {d : Bool}
theorem cdone_any (h : Blk w g 91 ([iv, fv, .bool d] ++ rc)) : Calls prog 8 #[.pointer (some ⟨g, 0, none⟩)] w (Ret (.bool d) w) := by
 have d2 : w.cell? ⟨g, 2, none⟩ = some (.bool d) := h.cell_ 2 rfl
 clear h
 go_enter func8, ntmps8
 go_wp2_with fail
 go_ret
 exact Ret.mk rfl rfl
end
theorem own_empty43 (w : World) (B : Nat) (hB : B ≤ w.heap.size) (e : TypeId) (k : Nat) : (w.alloc (.cells #[] e)).ownsRow B e k (.slice (some ⟨w.heap.size, 0, none⟩) 0 0) 0 [] := by
 refine ⟨by simp, .inr ⟨w.heap.size, 0, #[], rfl, hB, heap_alloc_new w _, Nat.le_refl _, by simp [maxLen], by simp, by simp⟩⟩
def ClR43 (e : TypeId) (k n : Nat) (xs : List Value) (w : World) (en : Ending) (w' : World) : Prop := ∃ v', en = .returned v' ∧ w'.ownsRow w.heap.size e k v' n xs ∧ Below w.heap.size w w'
theorem eq_nilRR43 (A : Option Addr) (n c : Nat) (w : World) : (binOp BinOp.eql 44 (.slice A n c) (.slice none 0 0)).run prog w = .ok (.bool A.isNone) w := by
 cases A <;> kernel_rfl
theorem eq_nilIf (A : Option Addr) (n c : Nat) (w : World) : (binOp BinOp.eql 49 (.slice A n c) (.slice none 0 0)).run prog w = .ok (.bool A.isNone) w := by
 cases A <;> kernel_rfl
theorem eq_nilRo (A : Option Addr) (n c : Nat) (w : World) : (binOp BinOp.eql 50 (.slice A n c) (.slice none 0 0)).run prog w = .ok (.bool A.isNone) w := by
 cases A <;> kernel_rfl
theorem eq_nilPo (A : Option Addr) (n c : Nat) (w : World) : (binOp BinOp.eql 51 (.slice A n c) (.slice none 0 0)).run prog w = .ok (.bool A.isNone) w := by
 cases A <;> kernel_rfl
theorem eq_nilIn43 (A : Option Addr) (n c : Nat) (w : World) : (binOp BinOp.eql 43 (.slice A n c) (.slice none 0 0)).run prog w = .ok (.bool A.isNone) w := by
 cases A <;> kernel_rfl
theorem ifclone_nil (w : World) : Calls prog 37 #[.slice none 0 0] w (Ret (.slice none 0 0) w) := by
 have EN := eq_nilIf none 0 0
 go_enter func37, ntmps37
 go_wp2_with fail
 go_ret
 exact Ret.mk rfl rfl
theorem roclone_nil (w : World) : Calls prog 38 #[.slice none 0 0] w (Ret (.slice none 0 0) w) := by
 have EN := eq_nilRo none 0 0
 go_enter func38, ntmps38
 go_wp2_with fail
 go_ret
 exact Ret.mk rfl rfl
theorem poclone_nil (w : World) : Calls prog 39 #[.slice none 0 0] w (Ret (.slice none 0 0) w) := by
 have EN := eq_nilPo none 0 0
 go_enter func39, ntmps39
 go_wp2_with fail
 go_ret
 exact Ret.mk rfl rfl
theorem rrclone_nil (w : World) : Calls prog 29 #[.slice none 0 0] w (Ret (.slice none 0 0) w) := by
 have EN := eq_nilRR43 none 0 0
 go_enter func29, ntmps29
 go_wp2_with fail
 go_ret
 exact Ret.mk rfl rfl
theorem infclone_any {v : Value} {n : Nat} {xs : List Value} (w : World) (h : w.ownsRow 0 57 20 v n xs) (hl : xs.length = n * 20) (h1 : ∀ u ∈ xs, u.oneCell' = true) (hn : n ≤ 100000) : Calls prog 28 #[v] w (ClR43 57 20 n xs w) := by
 obtain ⟨A, c, rfl⟩ := own_form h
 cases A with
 | none =>
  have h0 : n = 0 := by
   cases n with
   | zero => rfl
   | succ n => obtain ⟨g, L, e, _⟩ := own_range h (by omega) hl; cases e
  subst h0
  have hx : xs = [] := List.length_eq_zero_iff.1 (by simpa using hl)
  subst hx
  clear h hl h1
  have EN := eq_nilIn43 none 0 c
  go_enter func28, ntmps28
  go_wp2_with fail
  go_ret
  exact ⟨_, rfl, World.ownsRow_nil _ _ _ _, Below.refl _ _⟩
 | some ad =>
  have EN := eq_nilIn43 (some ad) n c
  have kb : Below w.heap.size w (w.alloc (.cells #[] 57)) := (Below.refl _ _).alloc (Nat.le_refl _) _
  have H0 := Hh (own_empty43 w w.heap.size (Nat.le_refl _) 57 20)
  have RG : Hid (∀ W, Below w.heap.size w W → 0 < n → ∃ b off, some ad = some ⟨b, off, none⟩ ∧ W.rangeAt b off xs) := Hh (fun W kb hp => by
   obtain ⟨g, L, hA, hb, hL, _⟩ := own_range (own_below h kb) hp hl
   refine ⟨g, 0, hA, fun j v hv => ?_⟩
   rw [Nat.zero_add]
   refine hb.cell_ j ?_
   rw [← hL] at hv
   rw [List.getElem?_take] at hv
   split at hv
   ·
    exact hv
   ·
    cases hv)
  have L1 := Hh hl
  have N1 := Hh h1
  clear h hl h1
  go_enter func28, ntmps28
  go_wp2_with (at_builtin; go_must (refine wpList_appG _ rfl (.tmp 5) (.tmp 6) 43 rfl 57 _ 20 48 underlying43 iI3 (by kernel_rfl) (by decide) w.heap.size _ 0 [] rfl H0.out kb.size (some ad) n c xs rfl (RG.out _ kb) L1.out N1.out (by simp only [maxLen]; omega) (by omega) n (by omega) ?_))
  intro A' c' w' ho hg
  have HB : Below w.heap.size w w' := kb.grown hg kb.size (fun k hk => by simp [Value.ownBlock] at hk; omega)
  have HO := Hh ho
  clear RG H0 ho hg kb
  go_wp2_with fail
  go_ret
  exact ⟨_, rfl, HO.out, HB⟩
theorem rzI6 : (prog.info? 46).map (·.size) = some 6 := by kernel_rfl
def rzZ : List Value := zrC 0 none 0 0 [] [] []
theorem zrC_one (code : Int) (A : Option Addr) (n c : Nat) (cn ho se : List UInt8) : ∀ u ∈ zrC code A n c cn ho se, u.oneCell' = true := by
 intro u hu
 simp only [zrC, List.mem_cons, List.not_mem_nil, or_false] at hu
 rcases hu with rfl | rfl | rfl | rfl | rfl | rfl <;> rfl
theorem own_lower {w : World} {B B' : Nat} {e : TypeId} {s n : Nat} {v : Value} {xs : List Value} (h : w.ownsRow B e s v n xs) (hb : B' ≤ B) : w.ownsRow B' e s v n xs := ⟨h.1, h.2.imp id (fun ⟨g, cap, cur, h1, h2, h3⟩ => ⟨g, cap, cur, h1, Nat.le_trans hb h2, h3⟩)⟩
def RsR43 (code : Int) (n : Nat) (xs : List Value) (cn ho se : List UInt8) (w : World) (e : Ending) (w' : World) : Prop := ∃ A c, e = .returned (.agg (zrC code A n c cn ho se).toArray) ∧ w'.ownsRow w.heap.size 57 20 (.slice A n c) n xs ∧ Below w.heap.size w w'
section
variable {w : World} {g : Nat} {iv fv : Value}
set_option maxHeartbeats 2000000 in
theorem cresult_done {code : Int} {A : Option Addr} {n c : Nat} {cn ho se : List UInt8} {xs : List Value} (h : Blk w g 91 ([iv, fv, .bool true] ++ zrC code A n c cn ho se)) (hO : w.ownsRow 0 57 20 (.slice A n c) n xs) (hl : xs.length = n * 20) (h1 : ∀ u ∈ xs, u.oneCell' = true) (hn : n ≤ 1000) : Calls prog 9 #[.pointer (some ⟨g, 0, none⟩)] w (RsR43 code n xs cn ho se w) := by
 have CI := Hh (fun V (hV : Below w.heap.size w V) => infclone_any V (own_below hO hV) hl h1 (by omega))
 have CR := Hh (fun V => rrclone_nil V)
 have d2 : w.cell? ⟨g, 2, none⟩ = some (.bool true) := h.cell_ 2 rfl
 have Z2 : Blk (w.alloc (.cells rzZ.toArray 46)) w.heap.size 46 rzZ := Blk.new w _ _
 have Z3 : Blk ((w.alloc (.cells rzZ.toArray 46)).alloc (.cells rzZ.toArray 46)) (w.heap.size + 1) 46 rzZ := Blk.new' _ _ _ _ (by simp)
 have Z2' := Z2.alloc (.cells rzZ.toArray 46)
 have BB : Below w.heap.size w ((w.alloc (.cells rzZ.toArray 46)).alloc (.cells rzZ.toArray 46)) := ((Below.refl _ _).alloc (Nat.le_refl _) _).alloc (by simp) _
 have h' := h.alloc (.cells rzZ.toArray 46)
 have d2' : (w.alloc (.cells #[.int .i64 0, .slice none 0 0, .string ⟨#[]⟩, .string ⟨#[]⟩, .string ⟨#[]⟩, .slice none 0 0] 46)).cell? ⟨g, 2, none⟩ = some (.bool true) := h'.cell_ 2 rfl
 clear hO h d2
 go_enter func9, ntmps9
 go_wp2_with (first
  | (refine at_op (.load 46 (.tmp 15)) rfl ?_; go_must (refine wpList_ldB rfl _ _ rfl g 3 rfl h' 6 (by simp [zrC]) _ underlying46 rfl rzI6 (zrC code A n c cn ho se) rfl ?_))
  | (refine at_op (.store 46 (.tmp 3) (.tmp 16)) rfl ?_; go_must (refine wpList_stB rfl _ _ _ rfl (w.heap.size + 1) 0 rfl (zrC code A n c cn ho se) rfl Z3 (Nat.le_refl 6) rzI6 (zrC_one _ _ _ _ _ _ _) ?_)))
 intro w1 B1 g1 e1
 have X3 : Blk w1 (w.heap.size + 1) 46 (zrC code A n c cn ho se) := B1
 have X2 := Z2'.grown g1 (by simp)
 have S1 := below_grown BB g1 BB.size (by omega)
 have d1 : w1.cell? ⟨w.heap.size + 1, 1, none⟩ = some (.slice A n c) := X3.cell_ 1 rfl
 clear e1 B1 g1 Z2 Z3 Z2' BB h' d2'
 go_wp2_with fail
 refine (CI.out _ S1).mono ?_
 rintro _ w2 ⟨v2, rfl, o2, b2⟩
 obtain ⟨A2, c2, rfl⟩ := own_form o2
 have Y3 := X3.below b2 X3.lt
 have Y2 := X2.below b2 X2.lt
 have S2 := below_then S1 S1.size b2
 have O2 := Hh o2
 have hz1 := S1.size
 clear CI X3 X2 d1 o2 b2
 go_wp2_with (refine at_op (.store 43 (.tmp 20) (.tmp 19)) rfl ?_; go_must (refine wpList_stC rfl 43 (.tmp 20) (.tmp 19) rfl (w.heap.size + 1) 1 rfl (.slice A2 n c2) rfl Y3 (by simp [zrC]) (by kernel_rfl) rfl rfl ?_))
 intro w3 B3 g3 _
 have X3 : Blk w3 (w.heap.size + 1) 46 (zrC code A2 n c2 cn ho se) := B3
 have X2 := Y2.grown g3 (by simp)
 have S3 := below_grown S2 g3 S2.size (by omega)
 have O3 := Hh (own_blk O2.out g3 Y3 (by decide))
 have d5 : w3.cell? ⟨w.heap.size + 1, 5, none⟩ = some (.slice none 0 0) := X3.cell_ 5 rfl
 clear B3 g3 Y3 Y2 S2 O2
 go_wp2_with fail
 refine (CR.out _).mono ?_
 rintro _ _ ⟨rfl, rfl⟩
 clear CR
 go_wp2_with (refine at_op (.store 44 (.tmp 24) (.tmp 23)) rfl ?_; go_must (refine wpList_stC rfl 44 (.tmp 24) (.tmp 23) rfl (w.heap.size + 1) 5 rfl (.slice none 0 0) rfl X3 (by simp [zrC]) (by kernel_rfl) rfl rfl ?_))
 intro w4 B4 g4 _
 have X4 : Blk w4 (w.heap.size + 1) 46 (zrC code A2 n c2 cn ho se) := B4
 have Y2 := X2.grown g4 (by simp)
 have S4 := below_grown S3 g4 S3.size (by omega)
 have O4 := Hh (own_blk O3.out g4 X3 (by decide))
 clear B4 g4 X3 X2 S3 O3 d5
 go_wp2_with (first
  | (refine at_op (.load 46 (.tmp 3)) rfl ?_; go_must (refine wpList_ldB rfl _ _ rfl (w.heap.size + 1) 0 rfl X4 6 (by simp [zrC]) _ underlying46 rfl rzI6 (zrC code A2 n c2 cn ho se) rfl ?_))
  | (refine at_op (.store 46 (.tmp 2) (.tmp 25)) rfl ?_; go_must (refine wpList_stB rfl _ _ _ rfl w.heap.size 0 rfl (zrC code A2 n c2 cn ho se) rfl Y2 (Nat.le_refl 6) rzI6 (zrC_one _ _ _ _ _ _ _) ?_)))
 intro w5 B5 g5 _
 have X5 : Blk w5 w.heap.size 46 (zrC code A2 n c2 cn ho se) := B5
 have S5 := below_grown S4 g5 S4.size (Nat.le_refl _)
 have O5 := Hh (own_blk O4.out g5 Y2 (by decide))
 clear B5 g5 X4 Y2 S4 O4
 go_wp2_with fail
 refine ret_cell rfl w.heap.size rfl X5 _ underlying46 rfl rzI6 rfl ?_
 exact ⟨_, _, rfl, own_lower O5.out hz1, S5⟩
theorem cresult_wait {rc : List Value} (h : Blk w g 91 ([iv, fv, .bool false] ++ rc)) : Calls prog 9 #[.pointer (some ⟨g, 0, none⟩)] w (RetB (.agg (zrC 10 none 0 0 [] [] []).toArray) w) := by
 have Z2 : Blk (w.alloc (.cells rzZ.toArray 46)) w.heap.size 46 rzZ := Blk.new w _ _
 have BB : Below w.heap.size w (w.alloc (.cells rzZ.toArray 46)) := (Below.refl _ _).alloc (Nat.le_refl _) _
 have h' := h.alloc (.cells rzZ.toArray 46)
 have d2' : (w.alloc (.cells #[.int .i64 0, .slice none 0 0, .string ⟨#[]⟩, .string ⟨#[]⟩, .string ⟨#[]⟩, .slice none 0 0] 46)).cell? ⟨g, 2, none⟩ = some (.bool false) := h'.cell_ 2 rfl
 clear h h'
 go_enter func9, ntmps9
 go_wp2_with (refine at_op (.store 46 (.tmp 2) (.tmp 12)) rfl ?_; go_must (refine wpList_stB rfl _ _ _ rfl w.heap.size 0 rfl (zrC 10 none 0 0 [] [] []) rfl Z2 (Nat.le_refl 6) rzI6 (zrC_one _ _ _ _ _ _ _) ?_))
 intro w5 B5 g5 _
 have X5 : Blk w5 w.heap.size 46 (zrC 10 none 0 0 [] [] []) := B5
 have S5 := below_grown BB g5 BB.size (Nat.le_refl _)
 clear B5 g5 Z2 BB d2'
 go_wp2_with fail
 refine ret_cell rfl w.heap.size rfl X5 _ underlying46 rfl rzI6 rfl ?_
 exact RetB.mk rfl S5
end
end Go.Proofs.YteimenplbanooaaGreatDoor
