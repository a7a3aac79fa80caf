/-
  Layer 43: GetAddrInfo of a name of one letter, of Inet: a host is waited for.
-/
import Derived.Test.YteimenplbanooaaGreatDoorRBPq
import Derived.Test.YteimenplbanooaaGreatDoorRBFq
namespace Go.Proofs.YteimenplbanooaaGreatDoor
open _root_.Go.Proofs.Tryz
open Go.RowKit
set_option maxRecDepth 100000
set_option linter.unusedVariables false
set_option linter.unusedSimpArgs false
def acC (v : Value) (A B : Option Addr) (n c k : Nat) : List Value := [v, .slice none 0 0, .slice none 0 0, .slice none 0 0, .int .i64 0, .int .i64 4, .int .i64 0, .slice A n c, .slice B 0 k]
theorem acBld (A B : Option Addr) (n c k : Nat) (W : World) : (Instr.build 107 #[(2, .agg #[.int .i64 0, .int .i64 4, .int .i64 0]), (3, .slice A n c), (4, .slice B 0 k)]).run prog W = .ok (.agg (acC (.pointer none) A B n c k).toArray) W := by kernel_rfl
theorem ntBld (W : World) : (Instr.build 53 #[(0, .slice none 0 0), (1, .slice none 0 0), (2, .slice none 0 0)]).run prog W = .ok (.agg ntC.toArray) W := by kernel_rfl
theorem ntI33 : (prog.info? 53).map (·.size) = some 3 := by kernel_rfl
def GwRet (b : Nat) (w : World) (e : Ending) (w' : World) : Prop := ∃ g A c iv fv rc, e = .returned (.tuple #[.pointer (some ⟨g, 0, none⟩), .slice A 1 c]) ∧ Blk w' g 91 ([iv, fv, .bool false] ++ rc) ∧ (∀ V, Below w'.heap.size w' V → Calls prog 13 #[.pointer (some ⟨g, 0, none⟩)] V (RetB (.int .i64 1) V)) ∧ Below b w w'
set_option maxHeartbeats 4000000 in
theorem gai_wait (w0 w : World) (gl b : Nat) (h0 : Below w0.heap.size w0 w) (hl : LotAt w gl ⟨[], 0⟩) (hb0 : w0.heap.size ≤ b) (hbw : b ≤ w.heap.size) (hbg : b ≤ gl) : Calls prog 10 #[.agg cf43.toArray, .agg ntC.toArray, .string (bs [97]), .string (bs []), hiC 0 4 0, .int .i64 0, .pointer (some ⟨gl, 0, none⟩)] w (GwRet b w) := by
 have hH : H3 0 4 0 := .inr (.inl ⟨rfl, rfl, rfl⟩)
 have HE := Hh (fun V => heldZ_any V)
 have CK := Hh (fun V => hchk_any 0 4 0 hH [97] [] rfl V)
 have PO := Hh (fun A n c V => ports_any 0 4 0 hH [] 0 (.inl ⟨rfl, rfl⟩) A n c V)
 have LI := Hh (fun V => litBad_any [97] (by decide) (by decide) rfl (by decide) (by decide) 0 4 0 V)
 have AK := Hh (fun V => hasks_any 0 4 0 hH (.agg ntC.toArray) ntC rfl rfl V)
 have HN := Hh (fun CS V (h : HZ CS V) (hV : Below w.heap.size w V) => h.host (gl := gl) (b := b) (below_then h0 h0.size hV) (hl.below hV) hb0 (Nat.le_trans hbw hV.size) hbg)
 have C7 : Blk (w.alloc (.cells cf43.toArray 42)) w.heap.size 42 cf43 := Blk.new w _ _
 have N8 := (Blk.new' (w.alloc (.cells cf43.toArray 42)) 53 ntC (w.heap.size + 1) (by simp)).alloc (.cells #[.int .i64 0, .int .i64 4, .int .i64 0] 55)
 have H11 := Blk.new' ((w.alloc (.cells cf43.toArray 42)).alloc (.cells ntC.toArray 53)) 55 [.int .i64 0, .int .i64 4, .int .i64 0] (w.heap.size + 1 + 1) (by simp)
 have C7' := (C7.alloc (.cells ntC.toArray 53)).alloc (.cells #[.int .i64 0, .int .i64 4, .int .i64 0] 55)
 have BB : Below w.heap.size w (((w.alloc (.cells cf43.toArray 42)).alloc (.cells ntC.toArray 53)).alloc (.cells #[.int .i64 0, .int .i64 4, .int .i64 0] 55)) := (((Below.refl _ _).alloc (Nat.le_refl _) _).alloc (by simp) _).alloc (by simp; omega) _
 obtain ⟨T, hT⟩ : ∃ T : List UInt8, Hid ([97] = T) := ⟨_, Hh rfl⟩
 have hTe : T.isEmpty = false := by rw [← hT.out]; rfl
 obtain ⟨ks, hks⟩ : ∃ ks, Hid (kdL 0 = ks) := ⟨_, Hh rfl⟩
 rw [hT.out] at CK LI ⊢
 rw [hks.out] at PO
 have a4 : bits .and .i64 0 4 = 0 := rfl
 have a128 : bits .and .i64 0 128 = 0 := rfl
 clear hl C7 h0 hH
 unfold hiC at *
 go_enter func10, ntmps10
 go_wp2_with (refine at_op (.load 42 (.tmp 7)) rfl ?_; go_must (refine wpList_ldB rfl _ _ rfl w.heap.size 0 rfl C7' 13 (by decide) _ underlying42 rfl cfgI13 cf43 rfl ?_))
 refine (HE.out _).mono ?_
 rintro _ w1 ⟨CS, rfl, hz, b1⟩
 have c13 := hz.len
 have c1 := hz.one
 obtain ⟨A12, k12, e12⟩ := hz.at12
 obtain ⟨A2, k2, e2⟩ := hz.at2
 have HZ1 := Hh hz
 have C1 := C7'.below b1 C7'.lt
 have D1 := H11.below b1 H11.lt
 have N1 := N8.below b1 N8.lt
 have S1 := below_then BB BB.size b1
 have cfI : (prog.info? 42).map (·.size) = some CS.length := by rw [c13]; exact cfgI13
 clear HE C7' H11 N8 BB b1 hz
 go_wp2_with (refine at_op (.store 42 (.tmp 7) (.tmp 31)) rfl ?_; go_must (refine wpList_stB rfl _ _ _ rfl w.heap.size 0 rfl CS rfl C1 (by rw [c13]; decide) cfI c1 ?_))
 intro w2 B2 g2 _
 have C2 : Blk w2 w.heap.size 42 CS := blkAll B2 (by first | decide | (rw [c13]; decide))
 have D2 := D1.grown g2 (by simp; omega)
 have N2 := N1.grown g2 (by simp)
 have S2 := below_grown S1 g2 S1.size (Nat.le_refl _)
 have HZ2 := Hh (HZ1.out.blk g2 C1 (by decide) (by decide))
 clear B2 g2 C1 D1 N1 S1 c1 cfI HZ1
 go_wp2_with (refine at_op (.load 55 (.tmp 11)) rfl ?_; go_must (refine wpList_ldB rfl _ _ rfl (w.heap.size + 1 + 1) 0 rfl D2 3 (Nat.le_refl 3) _ underlying55 rfl hiI3 [.int .i64 0, .int .i64 4, .int .i64 0] rfl ?_))
 refine (CK.out _).mono ?_
 rintro _ w3 ⟨rfl, b3⟩
 have C3 := C2.below b3 C2.lt
 have D3 := D2.below b3 D2.lt
 have N3 := N2.below b3 N2.lt
 have S3 := below_then S2 S2.size b3
 have HZ3 := Hh (HZ2.out.below b3)
 have d12 : w3.cell? ⟨w.heap.size, 12, none⟩ = some (.slice A12 0 k12) := C3.cell_ 12 e12
 clear C2 D2 N2 S2 b3 CK HZ2
 go_wp2_with (refine at_op (.load 55 (.tmp 11)) rfl ?_; go_must (refine wpList_ldB rfl _ _ rfl (w.heap.size + 1 + 1) 0 rfl D3 3 (Nat.le_refl 3) _ underlying55 rfl hiI3 [.int .i64 0, .int .i64 4, .int .i64 0] rfl ?_))
 refine (PO.out _ _ _ _).mono ?_
 rintro _ w4 ⟨vp, rfl, hpo, b4⟩
 obtain ⟨Ap, cp, rfl⟩ := own_form hpo
 have C4 := C3.below b4 C3.lt
 have D4 := D3.below b4 D3.lt
 have N4 := N3.below b4 N3.lt
 have S4 := below_then S3 S3.size b4
 have HZ4 := Hh (HZ3.out.below b4)
 clear C3 D3 N3 S3 b4 PO d12 hpo HZ3
 generalize ks.length = nk at *
 go_wp2_with (refine at_op (.load 55 (.tmp 11)) rfl ?_; go_must (refine wpList_ldB rfl _ _ rfl (w.heap.size + 1 + 1) 0 rfl D4 3 (Nat.le_refl 3) _ underlying55 rfl hiI3 [.int .i64 0, .int .i64 4, .int .i64 0] rfl ?_))
 refine (LI.out _).mono ?_
 rintro _ w5 ⟨rfl, b5⟩
 have C5 := C4.below b5 C4.lt
 have D5 := D4.below b5 D4.lt
 have N5 := N4.below b5 N4.lt
 have S5 := below_then S4 S4.size b5
 have HZ5 := Hh (HZ4.out.below b5)
 have h0 : w5.cell? ⟨w.heap.size + 1 + 1, 0, none⟩ = some (.int .i64 0) := D5.cell_ 0 rfl
 clear C4 D4 N4 S4 b5 LI HZ4
 go_wp2_with (first
  | (refine at_op (.load 53 (.tmp 8)) rfl ?_; go_must (refine wpList_ldB rfl _ _ rfl (w.heap.size + 1) 0 rfl N5 3 (Nat.le_refl 3) _ underlying53 rfl ntI33 ntC rfl ?_))
  | (refine at_op (.load 55 (.tmp 11)) rfl ?_; go_must (refine wpList_ldB rfl _ _ rfl (w.heap.size + 1 + 1) 0 rfl D5 3 (Nat.le_refl 3) _ underlying55 rfl hiI3 [.int .i64 0, .int .i64 4, .int .i64 0] rfl ?_)))
 refine (AK.out _).mono ?_
 rintro _ w6 ⟨rfl, b6⟩
 have C6 := C5.below b6 C5.lt
 have D6 := D5.below b6 D5.lt
 have N6 := N5.below b6 N5.lt
 have S6 := below_then S5 S5.size b6
 have HZ6 := Hh (HZ5.out.below b6)
 have d2 : w6.cell? ⟨w.heap.size, 2, none⟩ = some (.slice A2 0 k2) := C6.cell_ 2 e2
 have AB := Hh (fun W => acBld Ap A2 nk cp k2 W)
 clear C5 D5 N5 S5 b6 AK HZ5 h0
 obtain ⟨ac, hac⟩ : ∃ ac, Hid (acC (.pointer none) Ap A2 nk cp k2 = ac) := ⟨_, Hh rfl⟩
 have hal : ac.length = 9 := by rw [← hac.out]; rfl
 rw [hac.out] at AB
 have A7 := Blk.new w6 107 ac
 have N7 := N6.alloc (.cells ac.toArray 107)
 have Q7 : Below w6.heap.size w6 (w6.alloc (.cells ac.toArray 107)) := (Below.refl _ _).alloc (Nat.le_refl _) _
 have c6 := C6.lt
 have hw6 := S6.size
 go_wp2_with (first
  | (refine at_op (.load 55 (.tmp 11)) rfl ?_; go_must (refine wpList_ldB rfl _ _ rfl (w.heap.size + 1 + 1) 0 rfl D6 3 (Nat.le_refl 3) _ underlying55 rfl hiI3 [.int .i64 0, .int .i64 4, .int .i64 0] rfl ?_))
  | (refine at_op (.build 107 #[(2, .tmp 116), (3, .tmp 117), (4, .tmp 120)]) rfl ?_; go_must (refine wpList_bld rfl 107 _ rfl #[(2, .agg #[.int .i64 0, .int .i64 4, .int .i64 0]), (3, .slice Ap nk cp), (4, .slice A2 0 k2)] (by simp [Act.eval, Act.put]) (AB.out _) ?_)))
 refine wp_region_held_drew (S := fun V => Blk V (w.heap.size + 1) 53 ntC ∧ Blk V w6.heap.size 107 ac ∧ Below w6.heap.size w6 V) (by kernel_rfl) ⟨N7.drew, A7.drew, Q7.drew⟩ (fun hS => ?_)
 clear A7 N7 Q7 AB d2
 refine held_seq hS 7 [0,1,2,4,5,7,8] rfl (by kernel_rfl) (fun _ _ _ _ _ h => h) rfl rfl ?_
 (refine ⟨_, (.pointer (some ⟨w6.heap.size, 0, none⟩)), rfl, .inl ⟨rfl, fun V hV => rfl⟩, ?_⟩; simp only [Act.put, lsA, lsB, lsC])
 (refine ⟨_, (.pointer (some ⟨w.heap.size + 1, 0, none⟩)), rfl, .inl ⟨rfl, fun V hV => rfl⟩, ?_⟩; simp only [Act.put, lsA, lsB, lsC])
 (refine ⟨_, _, rfl, .inl ⟨rfl, fun V hV => (exec_ld 49 (.tmp 124) ⟨w.heap.size + 1, 0, none⟩ rfl rfl (run_load1 underlying49 rfl (hV.1.cell_ 0 rfl)))⟩, ?_⟩; simp only [Act.put, lsA, lsB, lsC])
 (refine ⟨_, (.pointer (some ⟨w.heap.size + 1, 1, none⟩)), rfl, .inl ⟨rfl, fun V hV => rfl⟩, ?_⟩; simp only [Act.put, lsA, lsB, lsC])
 (refine ⟨_, _, rfl, .inl ⟨rfl, fun V hV => (exec_ld 50 (.tmp 127) ⟨w.heap.size + 1, 1, none⟩ rfl rfl (run_load1 underlying50 rfl (hV.1.cell_ 1 rfl)))⟩, ?_⟩; simp only [Act.put, lsA, lsB, lsC])
 (refine ⟨_, (.pointer (some ⟨w.heap.size + 1, 2, none⟩)), rfl, .inl ⟨rfl, fun V hV => rfl⟩, ?_⟩; simp only [Act.put, lsA, lsB, lsC])
 (refine ⟨_, _, rfl, .inl ⟨rfl, fun V hV => (exec_ld 51 (.tmp 130) ⟨w.heap.size + 1, 2, none⟩ rfl rfl (run_load1 underlying51 rfl (hV.1.cell_ 2 rfl)))⟩, ?_⟩; simp only [Act.put, lsA, lsB, lsC])
 simp only [SeqC]
 refine held_call 3 (some 126) 37 #[.slice none 0 0] (by kernel_rfl) rfl rfl (by kernel_rfl) (by go_simp) (ifclone_nil _) ?_
 rintro _ _ ⟨rfl, rfl⟩
 refine ⟨_, rfl, hS, ?_⟩
 simp only [Act.put, lsA, lsB, lsC]
 refine held_call 6 (some 129) 38 #[.slice none 0 0] (by kernel_rfl) rfl rfl (by kernel_rfl) (by go_simp) (roclone_nil _) ?_
 rintro _ _ ⟨rfl, rfl⟩
 refine ⟨_, rfl, hS, ?_⟩
 simp only [Act.put, lsA, lsB, lsC]
 refine held_call 9 (some 132) 39 #[.slice none 0 0] (by kernel_rfl) rfl rfl (by kernel_rfl) (by go_simp) (poclone_nil _) ?_
 rintro _ _ ⟨rfl, rfl⟩
 refine ⟨_, rfl, hS, ?_⟩
 simp only [Act.put, lsA, lsB, lsC]
 refine held_seq hS 3 [10, 11, 12] rfl (by kernel_rfl) (fun _ _ _ _ _ h => h) rfl rfl ?_
 (refine ⟨_, (.agg ntC.toArray), rfl, .inl ⟨rfl, fun V hV => (exec_bldH 53 _ rfl #[(0, .slice none 0 0), (1, .slice none 0 0), (2, .slice none 0 0)] (by kernel_rfl) (ntBld V))⟩, ?_⟩; simp only [Act.put, lsA, lsB, lsC])
 (refine ⟨_, (.pointer (some ⟨w6.heap.size, 0, none⟩)), rfl, .inl ⟨rfl, fun V hV => rfl⟩, ?_⟩; simp only [Act.put, lsA, lsB, lsC])
 (refine ⟨_, (.pointer (some ⟨w6.heap.size, 1, none⟩)), rfl, .inl ⟨rfl, fun V hV => rfl⟩, ?_⟩; simp only [Act.put, lsA, lsB, lsC])
 simp only [SeqC]
 refine held_stB 13 none 53 (.tmp 135) (.tmp 133) (by kernel_rfl) rfl rfl rfl (by kernel_rfl) w6.heap.size 1 rfl ntC rfl hS.2.1 (by rw [hal]; decide) ntI33 (by intro v hv; simp [ntC] at hv; subst hv; rfl) ?_
 intro w9 B9 g9 s9
 have A9 : Blk w9 w6.heap.size 107 ac := by
  rw [← hac.out] at B9 ⊢
  exact B9
 have Q9 := below_grown hS.2.2 g9 hS.2.2.size (Nat.le_refl _)
 refine ⟨⟨hS.1.grown g9 (by have := N6.lt; simp; omega), A9, Q9⟩, ?_⟩
 simp only [Act.put, lsA, lsB, lsC]
 refine wpAnyH_done (by kernel_rfl) ?_ _
 have C9 := C6.below Q9 c6
 have S9 := below_then S6 S6.size Q9
 have HZ9 := Hh (HZ6.out.below Q9)
 have HN9 := Hh (HN.out CS w9 HZ9.out S9)
 rw [hT.out] at HN9
 clear B9 g9 s9 hS Q9 N6 D6 C6 S6 HZ6 HN c6
 unfold RetN at HN9
 go_wp2_with (refine at_op (.load 42 (.tmp 7)) rfl ?_; go_must (refine wpList_ldB rfl _ _ rfl w.heap.size 0 rfl C9 13 (by omega) _ underlying42 rfl cfgI13 CS (tk0 (by omega)) ?_))
 refine HN9.out.mono ?_
 rintro _ w10 ⟨gh, vo, rfl, o, D, hc, M, gp, X, p, hO, ho1, hW, hs0, hpp, hPA, hse, hx1, hx2, b10, kp⟩
 obtain ⟨Ao, co, rfl, -, -⟩ := hO.form
 rw [ho1]
 have A10 := kp _ _ _ A9.lt (.inr rfl) A9
 have S10 : Below b w w10 := (S9.mono hbw).trans b10
 obtain ⟨TT, K10, -⟩ := hW.at_.k
 have h23 : (TT ++ hcU hc)[23]? = some (.pointer (some ⟨gp, 0, none⟩)) := (t10_get K10.2 _ 13).trans (by show some (ptrV hc.pp) = _; rw [hpp]; rfl)
 have h25 : (TT ++ hcU hc)[25]? = some (.int .i64 0) := (t10_get K10.2 _ 15).trans (by show some (Value.int .i64 (hc.sent : Int)) = _; rw [hs0]; rfl)
 have h26 : (TT ++ hcU hc)[26]? = some (.bool false) := (t10_get K10.2 _ 16).trans (by show some (Value.bool hc.dn) = _; rw [hW.dn])
 have HS10 : HsS43 w10 gh := ⟨_, gp, p.bg.map Xc.sent, K10.1, h23, h25, h26, hPA.pss, fun x hx => by obtain ⟨y, hy, rfl⟩ := List.mem_map.1 hx; exact hx1 y hy, by rw [List.length_map]; exact hx2, hse⟩
 have hbw10 : b ≤ w10.heap.size := Nat.le_trans hbw S10.size
 clear hO ho1 hW hs0 hpp hPA hse hx1 hx2 b10 kp S9 HZ9 HN9 C9 A9 h23 h25 h26 K10
 go_wp2_with (refine at_op (.store 105 (.tmp 148) (.tmp 146)) rfl ?_; go_must (refine wpList_stC rfl 105 (.tmp 148) (.tmp 146) rfl w6.heap.size 0 rfl (.pointer (some ⟨gh, 0, none⟩)) rfl A10 (by rw [hal]; decide) (by kernel_rfl) rfl rfl ?_))
 intro w11 B11 g11 sz11
 have HS11 := Hh (HS10.grown g11 A10)
 have S11 := below_grown S10 g11 hbw10 (Nat.le_trans hbw hw6)
 have hbw11 : b ≤ w11.heap.size := by rw [sz11]; exact hbw10
 have WA := Hh (waiting_any w11 gh HS11.out 41 ⟨w6.heap.size, 0, none⟩)
 have hmf : ∀ (fn : Fn) (first cap : Array Value) (w : World), (Instr.makeFunc fn first cap).run prog w = .ok (.func fn first cap) w := fun _ _ _ _ => rfl
 clear B11 g11 sz11 A10 S10 HS10 hbw10
 unfold looV at WA
 go_wp2_with fail
 refine WA.out.mono ?_
 rintro _ w12 ⟨g, rfl, hg, hB, b12⟩
 have HS12 := Hh (HS11.out.below b12)
 have HB := Hh hB
 have S12 := Hh (below_then S11 hbw11 b12)
 clear WA HS11 hB b12 S11
 go_wp2_with fail
 go_ret2
 exact ⟨g, Ao, co, _, _, rzZ, rfl, HB.out, fun V hV => csent_wait (HB.out.below hV HB.out.lt) 1 ((HS12.out.below hV).sent), S12.out⟩
def a43 : Adr := ⟨6, [0, 0, 0, 0, 0, 0, 0, 0, 0, 0, 0, 0, 0, 0, 0, 1], 0⟩
theorem c43 : colonT a43 = [58, 58, 49] := by kernel_rfl
theorem v43 : valD [56, 48] = 80 := by kernel_rfl
theorem zrF0 (code : Int) (A : Option Addr) (n c : Nat) (cn ho se : List UInt8) (W : World) : (Instr.field 46 (.agg (zrC code A n c cn ho se).toArray) 0).run prog W = .ok (.int .i64 code) W := by kernel_rfl
theorem zrF1 (code : Int) (A : Option Addr) (n c : Nat) (cn ho se : List UInt8) (W : World) : (Instr.field 46 (.agg (zrC code A n c cn ho se).toArray) 1).run prog W = .ok (.slice A n c) W := by kernel_rfl
theorem num80 (V : World) : Calls prog 82 #[.string (bs [56, 48]), .int .i64 65535] V (Ret (.tuple #[.int .i64 80, .int .i64 0]) V) := by
 have h := numD_any [56, 48] 65535 (by decide) (by decide) (by unfold digs; decide) (by decide) (by rw [v43]; decide) V
 rw [v43] at h
 exact h
theorem lit43 (gl : Nat) (V : World) (hT : Tb V) (hM : Mx V) : Calls prog 10 #[.agg cf43.toArray, .agg ntC.toArray, .string ⟨#[58, 58, 49]⟩, .string ⟨#[56, 48]⟩, .agg #[.int .i64 0, .int .i64 0, .int .i64 0], .int .i64 0, .pointer (some ⟨gl, 0, none⟩)] V (GaR43 a43 80 [1, 2] V) :=
 gai_lit 0 0 (.inl ⟨rfl, rfl, rfl⟩) [58, 58, 49] [56, 48] rfl a43 rfl (.inr rfl) 80 (.inr ⟨rfl, num80⟩) (some ⟨gl, 0, none⟩) V (fun U hU => by
  have h := addrParse6_any a43 rfl rfl (by decide) U (hT.below hU) (hM.below hU)
  rw [c43] at h
  exact h)
set_option maxHeartbeats 4000000 in
theorem works43_any (w : World) (hT : Tb w) (hM : Mx w) : Calls prog 5 #[] w (RetB (.bool true) w) := by
 have LN := Hh (fun V => lnew_any none 0 [] V (fun h => absurd h (by decide)) (by decide))
 have GA := Hh (fun gl V (hV : Below w.heap.size w V) => lit43 gl V (hT.below hV) (hM.below hV))
 clear hT hM
 go_enter func5, ntmps5
 go_wp2_with fail
 refine (LN.out _).mono ?_
 rintro _ w1 ⟨gl, rfl, hL, b1, hgl⟩
 clear hL hgl
 go_wp2_with fail
 refine (GA.out gl w1 b1).mono ?_
 rintro _ w2 ⟨g1, A1, c1, rfl, hX, hI, b2⟩
 have S2 := below_then b1 b1.size b2
 have HX := Hh hX
 have HI := Hh hI
 clear b1 b2 hX hI GA
 go_wp2_with fail
 refine (LN.out _).mono ?_
 rintro _ w3 ⟨gm, rfl, hL, b3, hgm⟩
 have GW := Hh (gai_wait w2 w3 gm w2.heap.size b3 hL (Nat.le_refl _) b3.size hgm)
 clear LN hL hgm
 unfold hiC at GW
 go_wp2_with fail
 refine GW.out.mono ?_
 rintro _ w4 ⟨g2, A2, c2, iv, fv, rc, rfl, hY, hS, b4⟩
 have b24 := b3.trans b4
 have X4 := HX.out.below b24 HX.out.lt
 have I4 := own_below HI.out b24
 have S4 := below_then S2 S2.size b24
 have DX := Hh (cdone_any X4)
 have RX := Hh (fun V (hV : Below w4.heap.size w4 V) => cresult_done (X4.below hV X4.lt) (own_below I4 hV) (infR_len a43 rfl 80 [1, 2]) (infR_one a43 80 [1, 2]) (by decide))
 have RY := Hh (fun V (hV : Below w4.heap.size w4 V) => cresult_wait (hY.below hV hY.lt))
 have SY := Hh (fun V (hV : Below w4.heap.size w4 V) => hS V hV)
 have F0 := Hh zrF0
 have F1 := Hh zrF1
 have h38 : (infR a43 80 [1, 2])[38]? = some (.int .i64 80) := by kernel_rfl
 have hl2 : (infR a43 80 [1, 2]).length = 2 * 20 := infR_len a43 rfl 80 [1, 2]
 generalize infR a43 80 [1, 2] = IR at *
 have hll : ([1, 2] : List Int).length = 2 := rfl
 rw [hll] at RX
 unfold RsR43 at RX
 clear GW HX HI b3 b4 hY hS b24 X4 I4 S2 hll
 go_wp2_with fail
 refine DX.out.mono ?_
 rintro _ _ ⟨rfl, rfl⟩
 clear DX
 go_wp2_with fail
 refine (RX.out _ (Below.refl _ _)).mono ?_
 rintro _ w5 ⟨A5, c5, rfl, ho5, b5⟩
 clear ho5
 go_wp2_with (refine at_op (.field 46 (.tmp 36) 1) rfl ?_; go_must (refine wpList_exG (v := .slice A5 2 c5) (by go_simp) (exec_fld 46 (.tmp 36) 1 rfl rfl (F1.out _ _ _ _ _ _ _ _)) ?_))
 refine (RX.out _ b5).mono ?_
 rintro _ w6 ⟨A6, c6, rfl, ho6, b6⟩
 have b46 := below_then b5 b5.size b6
 obtain ⟨gi, rfl, hgi, hcell⟩ := own_cells43 ho6 (by decide) hl2
 have d38 := hcell 38 _ h38
 clear RX b5 b6 ho6 hcell h38 hl2 hgi
 go_wp2_with (refine at_op (.field 46 (.tmp 43) 1) rfl ?_; go_must (refine wpList_exG (v := .slice (some ⟨gi, 0, none⟩) 2 c6) (by go_simp) (exec_fld 46 (.tmp 43) 1 rfl rfl (F1.out _ _ _ _ _ _ _ _)) ?_))
 refine (RY.out _ b46).mono ?_
 rintro _ w7 ⟨rfl, b7⟩
 have b47 := below_then b46 b46.size b7
 clear RY b46 b7 d38
 go_wp2_with (refine at_op (.field 46 (.tmp 57) 0) rfl ?_; go_must (refine wpList_exG (v := .int .i64 10) (by go_simp) (exec_fld 46 (.tmp 57) 0 rfl rfl (F0.out _ _ _ _ _ _ _ _)) ?_))
 refine (SY.out _ b47).mono ?_
 rintro _ w8 ⟨rfl, b8⟩
 have S8 := Hh (below_then S4 S4.size (below_then b47 b47.size b8))
 clear SY b47 b8 S4
 go_wp2_with fail
 go_ret
 exact RetB.mk rfl S8.out
theorem stubRound_any (a : Adr) (h16 : a.ip.length = 16) (hz : a.zone ≤ 9223372036854775807) (p : Nat) (hp : p ≤ 65535) (w : World) (hT : Tb w) (hM : Mx w) (hA : Ah w) : Calls prog 3 #[.agg a.cells.toArray, .int .u16 (p : Int)] w (RetB (.bool true) w) :=
 stubRound_of a h16 hz p hp w hT hM hA (fun V hV => works43_any V (hT.below hV) (hM.below hV))
open Go.ChangeShapes Go.WideShapes Go.ChangeAt Go.RowKit
section
variable {H : Type} {enc : TypeId × Value → H} {w : World} {cs : List Value}
theorem seen_int43 (h : SeenW enc prog w 3 cs) : ∃ n : Int, cs = [.int .i64 n] ∧ I64 n := by
 obtain ⟨n, e, hw⟩ := h.int underlying3
 simp only [Lit.wf, Bool.and_eq_true, decide_eq_true_eq] at hw
 exact ⟨n, e, hw.1, hw.2⟩
theorem seen_u16 (h : SeenW enc prog w 25 cs) : ∃ n : Nat, cs = [.int .u16 (n : Int)] ∧ n ≤ 65535 := by
 obtain ⟨n, e, hw⟩ := h.int underlying25
 simp only [Lit.wf, Bool.and_eq_true, decide_eq_true_eq] at hw
 have hmin : IntKind.u16.min = 0 := rfl
 have hmax : IntKind.u16.max = 65535 := rfl
 refine ⟨n.toNat, ?_, by omega⟩
 rw [e, Int.toNat_of_nonneg (by omega)]
theorem seen_adr43 (h : SeenW enc prog w 24 cs) : ∃ a : Adr, a.ip.length = 16 ∧ cs = a.cells ∧ I64 a.zone := by
 have c18 : prog.cellsOf 24 = 18 := by kernel_rfl
 have c1 : prog.cellsOf 3 = 1 := by kernel_rfl
 have c16 : prog.cellsOf 22 = 16 := by kernel_rfl
 obtain ⟨hl, hf⟩ := h.struct underlying24
 rw [c18] at hl
 have h0 : SeenW enc prog w 3 ((cs.drop 0).take (prog.cellsOf 3)) := hf 0 _ rfl
 have h1 : SeenW enc prog w 22 ((cs.drop 1).take (prog.cellsOf 22)) := hf 1 _ rfl
 have h2 : SeenW enc prog w 3 ((cs.drop 17).take (prog.cellsOf 3)) := hf 2 _ rfl
 rw [c1] at h0 h2
 rw [c16] at h1
 obtain ⟨f, e0, _⟩ := seen_int43 h0
 obtain ⟨ip, i16, e1⟩ := seen_16 h1
 obtain ⟨z, e2, wz⟩ := seen_int43 h2
 refine ⟨⟨f, ip, z⟩, i16, ?_, wz⟩
 show cs.drop 0 = _
 rw [dsplit cs 0 1 1 rfl, e0, dsplit cs 1 16 17 rfl, e1, dsplit cs 17 1 18 rfl, e2, List.drop_of_length_le (by omega)]
 rfl
end
end Go.Proofs.YteimenplbanooaaGreatDoor
