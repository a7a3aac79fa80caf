/-
  Layer 47: report.Text.
-/
import Derived.Test.YtkcbffldncmbcaaGreatDoorTy16q
namespace Go.Proofs.YtkcbffldncmbcaaGreatDoor
open _root_.Go.Proofs.Tryz
open Go.RowKit
set_option maxRecDepth 100000
set_option linter.unusedVariables false
set_option linter.unusedSimpArgs false
theorem run_bt2 (a b : ByteArray) (w : World) : (Instr.buildSlice 41 2 #[(0, .string a), (1, .string b)]).run prog w = .ok (.slice (some ⟨w.heap.size, 0, none⟩) 2 2) (w.alloc (.cells #[.string a, .string b] 9)) := by kernel_rfl
theorem exec_bt2 {a b : ByteArray} {w : World} {o : Oper} {ac : Act} (x0 x1 : Operand) (ho : o.op = .buildSlice 41 2 #[(0, x0), (1, x1)]) (h0 : ac.eval x0 = .string a) (h1 : ac.eval x1 = .string b) : (execOp ac.eval o).run prog w = .ok (.value (.slice (some ⟨w.heap.size, 0, none⟩) 2 2)) (w.alloc (.cells #[.string a, .string b] 9)) := by
 unfold execOp
 simp only [ho, Sem.run_bind, Sem.run_pure, Result.andThen_ok, List.map_toArray, List.map_cons, List.map_nil, h0, h1, run_bt2]
theorem run_bt7 (a b c d e f g : ByteArray) (w : World) : (Instr.buildSlice 41 7 #[(0, .string a), (1, .string b), (2, .string c), (3, .string d), (4, .string e), (5, .string f), (6, .string g)]).run prog w = .ok (.slice (some ⟨w.heap.size, 0, none⟩) 7 7) (w.alloc (.cells #[.string a, .string b, .string c, .string d, .string e, .string f, .string g] 9)) := by kernel_rfl
theorem exec_bt7 {a b c d e f g : ByteArray} {w : World} {o : Oper} {ac : Act} (x0 x1 x2 x3 x4 x5 x6 : Operand) (ho : o.op = .buildSlice 41 7 #[(0, x0), (1, x1), (2, x2), (3, x3), (4, x4), (5, x5), (6, x6)]) (h0 : ac.eval x0 = .string a) (h1 : ac.eval x1 = .string b) (h2 : ac.eval x2 = .string c) (h3 : ac.eval x3 = .string d) (h4 : ac.eval x4 = .string e) (h5 : ac.eval x5 = .string f) (h6 : ac.eval x6 = .string g) : (execOp ac.eval o).run prog w = .ok (.value (.slice (some ⟨w.heap.size, 0, none⟩) 7 7)) (w.alloc (.cells #[.string a, .string b, .string c, .string d, .string e, .string f, .string g] 9)) := by
 unfold execOp
 simp only [ho, Sem.run_bind, Sem.run_pure, Result.andThen_ok, List.map_toArray, List.map_cons, List.map_nil, h0, h1, h2, h3, h4, h5, h6, run_bt7]
theorem infInfo : (prog.info? 53).map (·.size) = some 20 := by kernel_rfl
theorem wordT_len (ls : List (List UInt8)) (hls : ∀ l ∈ ls, l.length ≤ 10) (f n : Int) (h : I64 n) : (wordT ls f n).length ≤ 21 := by
 unfold wordT
 split
 ·
  rename_i hi
  rw [List.getD_eq_getElem?_getD]
  cases hx : ls[(n - f).toNat]? with
  | none => simp
  | some l =>
   have := hls l (List.mem_of_getElem? hx)
   simp; omega
 ·
  exact itoa_len n h.1 h.2
theorem codeL_10 : ∀ l ∈ codeL, l.length ≤ 10 := by decide
theorem kindL_10 : ∀ l ∈ kindL, l.length ≤ 10 := by decide
theorem lineQ_yes {nm s : List UInt8} (h : s ≠ []) : lineQ nm s = joinC 32 [nm, quoL s] ++ [10] := by unfold lineQ; rw [if_neg h]; simp [joinC]
theorem lineQ_no (nm : List UInt8) : lineQ nm [] = [] := rfl
theorem headT_len (R : Rz) (h : I64 R.code) : (headT R).length ≤ 100 := by
 have := wordT_len codeL codeL_10 0 R.code h
 unfold headT
 simp only [List.length_append, List.length_cons, List.length_nil]
 omega
theorem lineQ_len (nm s : List UInt8) (h : nm.length ≤ 10) : (lineQ nm s).length ≤ 12 + 4 * s.length := by
 have := quoL_len s
 unfold lineQ
 split
 ·
  simp
 ·
  simp only [List.length_append, List.length_cons, List.length_nil]; omega
theorem adrT_len (a : Adr) (hz : I64 a.zone) : (adrT a).length ≤ 400 := by
 have hq : (quadA4 a.ip 0).length ≤ 100 := by
  have l0 := itoa_len (ipN a.ip 0) (by omega) (by have := ipN_lt a.ip 0; omega)
  have l1 := itoa_len (ipN a.ip 1) (by omega) (by have := ipN_lt a.ip 1; omega)
  have l2 := itoa_len (ipN a.ip 2) (by omega) (by have := ipN_lt a.ip 2; omega)
  have l3 := itoa_len (ipN a.ip 3) (by omega) (by have := ipN_lt a.ip 3; omega)
  show (quadT (ipN a.ip 0) (ipN a.ip 1) (ipN a.ip 2) (ipN a.ip 3)).length ≤ 100
  unfold quadT
  simp only [List.length_append, List.length_cons]
  omega
 have hb := bareT_len a.ip
 have hi := itoa_len a.zone hz.1 hz.2
 unfold adrT
 split
 ·
  omega
 ·
  split
  ·
   unfold colonT
   rw [List.length_append]
   split
   ·
    simp only [List.length_cons]; omega
   ·
    simp; omega
  ·
   simp
theorem infT_len (x : Inf) (h : x.a.ip.length = 16 ∧ I64 x.a.zone ∧ I64 x.port ∧ I64 x.sock) : (infT x).length ≤ 1000 := by
 have h1 := adrT_len x.a h.2.1
 have h2 := itoa_len x.port h.2.2.1.1 h.2.2.1.2
 have h3 := wordT_len kindL kindL_10 1 x.sock h.2.2.2
 simp [infT, infL, joinC]
 omega
theorem infs_len {w : World} {A : Option Addr} {l : List Inf} (h : LIn w 20 InfI A l) : ∀ x ∈ l, (infT x).length ≤ 1000 := by
 intro x hx
 obtain ⟨i, hi, rfl⟩ := List.getElem_of_mem hx
 obtain ⟨ba, oa, _, _, xa⟩ := h (by omega)
 obtain ⟨cs, _, hc⟩ := xa i hi
 exact infT_len _ hc.2
theorem nameT_len (n : List (List UInt8)) (h : lsum n ≤ 400) : (nameT n).length ≤ 1601 := by
 by_cases h0 : n = []
 ·
  subst h0; simp [nameT]
 ·
  rw [nameT_dot h0]
  have := dotL_len n
  omega
theorem rrT_len {r : RR} (h : RRs4 r) : (rrT r).length ≤ 10000 := by
 obtain ⟨⟨a, b, c, d⟩, hn, ht⟩ := h
 have h1 := nameT_len r.name hn
 have h2 := nameT_len r.tg ht
 have h3 := itoa_len r.ttl a.1 a.2
 have h4 := itoa_len r.pri b.1 b.2
 have h5 := itoa_len r.we c.1 c.2
 have h6 := itoa_len r.po d.1 d.2
 simp [rrT, rrL, joinC]
 omega
def infZ : List Value := infC ⟨Adr.zero, 0, 0⟩
def FB (w : World) (rc : List Value) (V : World) : Prop := Blk V w.heap.size 35 rc ∧ Below w.heap.size w V
theorem FB.drew {w V : World} {rc : List Value} (h : FB w rc V) : FB w rc V.drew := ⟨h.1, h.2.drew⟩
theorem FB.below {w V V' : World} {rc : List Value} (h : FB w rc V) (k : Below V.heap.size V V') : FB w rc V' := ⟨h.1.below k h.1.lt, below_then h.2 h.2.size k⟩
theorem FB.line {w V V' : World} {rc : List Value} {b : Nat} (h : FB w rc V) (k : Below b V V') (hb : w.heap.size < b) : FB w rc V' := ⟨h.1.below k hb, h.2.trans (k.mono (Nat.le_of_lt hb))⟩
set_option maxHeartbeats 4000000 in
theorem stext_any (R : Rz) (Ai Ar : Option Addr) (ci cr : Nat) (w : World) (hT : Tb w) (hc : I64 R.code) (hI : LIn w 20 InfI Ai R.infos) (hIl : R.infos.length ≤ 100) (hR : RRsR w Ar R.recs) (hR4 : ∀ r ∈ R.recs, RRs4 r) (hRl : R.recs.length ≤ 60) (hs : R.canon.length ≤ 2000 ∧ R.host.length ≤ 2000 ∧ R.serv.length ≤ 2000) :
  Calls prog 6 #[.agg (rzC (.slice Ai R.infos.length ci) (.slice Ar R.recs.length cr) R).toArray] w (RetB (.string (bs (rzT R))) w) := by
 obtain ⟨code, infos, canon, host, serv, recs⟩ := R
 simp only at hc hI hIl hR hR4 hRl hs ⊢
 obtain ⟨rc, hrc⟩ : ∃ rc, Hid (rzC (.slice Ai infos.length ci) (.slice Ar recs.length cr) ⟨code, infos, canon, host, serv, recs⟩ = rc) := ⟨_, Hh rfl⟩
 have hrl : rc.length = 6 := by rw [← hrc.out]; rfl
 have L0 : rc[0]? = some (.int .i64 code) := by rw [← hrc.out]; rfl
 have L1 : rc[1]? = some (.slice Ai infos.length ci) := by rw [← hrc.out]; rfl
 have L2 : rc[2]? = some (.string (bs canon)) := by rw [← hrc.out]; rfl
 have L3 : rc[3]? = some (.string (bs host)) := by rw [← hrc.out]; rfl
 have L4 : rc[4]? = some (.string (bs serv)) := by rw [← hrc.out]; rfl
 have L5 : rc[5]? = some (.slice Ar recs.length cr) := by rw [← hrc.out]; rfl
 rw [hrc.out]
 have HL0 := Hh L0
 have HL1 := Hh L1
 have HL2 := Hh L2
 have HL3 := Hh L3
 have HL4 := Hh L4
 have HL5 := Hh L5
 clear L0 L1 L2 L3 L4 L5 hrc
 have HTb := Hh hT
 have HII := Hh hI
 have HRR := Hh hR
 have HR4 := Hh hR4
 have HC := Hh hc
 have HRZ : Hid (rzT ⟨code, infos, canon, host, serv, recs⟩ = headT ⟨code, infos, canon, host, serv, recs⟩ ++ lineQ [99, 97, 110, 111, 110] canon ++ lineQ [104, 111, 115, 116] host ++ lineQ [115, 101, 114, 118, 105, 99, 101] serv ++ infos.flatMap infT ++ recs.flatMap rrT) := Hh rfl
 have HH : Hid (headT ⟨code, infos, canon, host, serv, recs⟩ = joinC 32 [[99, 111, 100, 101], wordT codeL 0 code] ++ [10]) := Hh (by simp [headT, joinC])
 obtain ⟨RT, hRT⟩ : ∃ RT, Hid (rzT ⟨code, infos, canon, host, serv, recs⟩ = RT) := ⟨_, Hh rfl⟩
 obtain ⟨H0, hH0⟩ : ∃ H0, Hid (headT ⟨code, infos, canon, host, serv, recs⟩ = H0) := ⟨_, Hh rfl⟩
 rw [hRT.out, hH0.out] at HRZ
 rw [hH0.out] at HH
 have HHn : Hid (H0 = headT ⟨code, infos, canon, host, serv, recs⟩) := Hh hH0.out.symm
 rw [hRT.out]
 clear hT hI hR hR4 hc hRT hH0
 have X0 := Blk.new w 35 rc
 have B0 : Below w.heap.size w (w.alloc (.cells rc.toArray 35)) := (Below.refl _ _).alloc (Nat.le_refl _) _
 go_enter func6, ntmps6
 go_wp2_with fail
 have BT0 : BT ((w.alloc (.cells rc.toArray 35)).alloc (.cells #[.pointer none, .slice none 0 0] 57)) (w.heap.size + 1) [] := by
  have := BT.fresh (w.alloc (.cells rc.toArray 35))
  simpa using this
 have F0 : FB w rc ((w.alloc (.cells rc.toArray 35)).alloc (.cells #[.pointer none, .slice none 0 0] 57)) := ⟨X0.alloc _, B0.alloc B0.size _⟩
 clear X0 B0
 obtain ⟨W, hW⟩ : ∃ W, Hid ((w.alloc (.cells rc.toArray 35)).alloc (.cells #[.pointer none, .slice none 0 0] 57) = W) := ⟨_, Hh rfl⟩
 obtain ⟨b, hb⟩ : ∃ b, Hid (w.heap.size + 1 = b) := ⟨_, Hh rfl⟩
 rw [hW.out, hb.out] at BT0 ⊢
 rw [hW.out] at F0
 have hwb : w.heap.size < b := by have := hb.out; omega
 clear hW hb
 have WD := Hh (fun V => words_any V)
 refine wp_region_held_drew (S := FB w rc) (by kernel_rfl) F0.drew (fun hS => ?_)
 refine held_seq hS 3 [0,2,3] rfl (by kernel_rfl) (fun _ _ _ _ _ h => h) rfl rfl ?_
 (refine ⟨_, (.func (.func 16) #[] #[.pointer (some ⟨b, 0, none⟩)]), rfl, .inl ⟨rfl, fun V hV => rfl⟩, ?_⟩; simp only [Act.put, lsA, lsB, lsC])
 (refine ⟨_, (.pointer (some ⟨w.heap.size, 0, none⟩)), rfl, .inl ⟨rfl, fun V hV => rfl⟩, ?_⟩; simp only [Act.put, lsA, lsB, lsC])
 (refine ⟨_, _, rfl, .inl ⟨rfl, fun V hV => (exec_ld 3 (.tmp 12) ⟨w.heap.size, 0, none⟩ rfl rfl (run_load1 underlying3 rfl (hV.1.cell_ 0 HL0.out)))⟩, ?_⟩; simp only [Act.put, lsA, lsB, lsC])
 simp only [SeqC]
 have BT1 : BT W.drew b [] := BT0
 obtain ⟨W1, hW1⟩ : ∃ W1, Hid (W.drew = W1) := ⟨_, Hh rfl⟩
 rw [hW1.out] at hS BT1 ⊢
 clear hW1 BT0 F0
 refine held_call 1 (some 11) 21 #[] (by kernel_rfl) rfl rfl (by kernel_rfl) (by go_simp) (WD.out _) ?_
 rintro _ W2 ⟨g, rfl, hg, hgl, b1⟩
 have hS2 := hS.below b1
 have BT2 := BT1.below b1
 clear hS BT1 b1 WD
 refine ⟨_, rfl, hS2, ?_⟩
 simp only [Act.put, lsA, lsB, lsC]
 have WO := Hh (word_any codeL (by decide) 0 code (.inl rfl) HC.out.1 HC.out.2 g W2 hg (HTb.out.below hS2.2))
 refine held_call 4 (some 14) 20 #[.slice (some ⟨g, 0, none⟩) codeL.length codeL.length, .int .i64 0, .int .i64 code] (by kernel_rfl) rfl rfl (by kernel_rfl) (by go_simp) WO.out ?_
 rintro _ W3 ⟨rfl, b1⟩
 have hS3 := hS2.below b1
 have BT3 := BT2.below b1
 clear hS2 BT2 b1 WO hg hgl
 refine ⟨_, rfl, hS3, ?_⟩
 simp only [Act.put, lsA, lsB, lsC]
 have kn : Below W3.heap.size W3 (W3.alloc (.cells #[.string (bs [99, 111, 100, 101]), .string (bs (wordT codeL 0 code))] 9)) := (Below.refl _ _).alloc (Nat.le_refl _) _
 have NB := Blk.new W3 9 [.string (bs [99, 111, 100, 101]), .string (bs (wordT codeL 0 code))]
 have hS4 := hS3.below kn
 have BT4 := BT3.below kn
 refine held_run 5 (some 15) (by kernel_rfl) rfl rfl (by kernel_rfl) (exec_bt2 (.const (.string ⟨#[99, 111, 100, 101]⟩)) (.tmp 14) rfl rfl rfl) hS4 ?_
 simp only [Act.put, lsA, lsB, lsC]
 have wl := wordT_len codeL codeL_10 0 code HC.out
 have LN := Hh (line_any b [] W3.heap.size 2 [[99, 111, 100, 101], wordT codeL 0 code] _ BT4 NB (Nat.le_refl 2) (show 2 ≤ 100000 by decide) (by simp [joinC]; omega) (by decide))
 rw [List.nil_append, ← HH.out] at LN
 clear hS3 BT3 kn NB wl BT4 HH
 refine held_call 6 (some 16) 16 #[.slice (some ⟨W3.heap.size, 0, none⟩) 2 2, .pointer (some ⟨b, 0, none⟩)] (by kernel_rfl) rfl rfl (by kernel_rfl) (by go_simp) LN.out ?_
 rintro _ W5 ⟨rfl, BT5, b1, -⟩
 have hS5 := hS4.line b1 hwb
 clear hS4 b1 LN
 refine ⟨_, rfl, hS5, ?_⟩
 simp only [Act.put, lsA, lsB, lsC]
 refine wpAnyH_done (by kernel_rfl) ?_ _
 have hHl : H0.length ≤ 100 := by rw [HHn.out]; exact headT_len _ HC.out
 clear HC HHn
 have d2 := hS5.1.cell_ 2 HL2.out
 go_upto_if 19 with fail
 go_cut [] (fun wx => FB w rc wx ∧ BT wx b (H0 ++ lineQ [99, 97, 110, 111, 110] canon))
 case first =>
  by_cases h0 : canon = []
  case pos =>
   subst h0
   clear HRZ
   go_wp2_with fail
   go_meet
   case rel => exact ⟨hS5, by rw [lineQ_no, List.append_nil]; exact BT5⟩
  have h0' : (canon != []) = true := by simpa using h0
  have h0'' : (canon == []) = false := by simpa using h0
  have h03 : canon.isEmpty = false := by simpa using h0
  have h04 : (!canon.isEmpty) = true := by rw [h03]; rfl
  have QU := Hh (fun V => squoted_any canon (by omega) V)
  have ql := quoL_len canon
  have HE : Hid (H0 ++ lineQ [99, 97, 110, 111, 110] canon = H0 ++ joinC 32 [[99, 97, 110, 111, 110], quoL canon] ++ [10]) := Hh (by rw [lineQ_yes h0, List.append_assoc])
  clear HRZ h0
  generalize quoL canon = z at *
  go_wp2_with fail
  refine (QU.out _).mono ?_
  rintro _ Wa ⟨rfl, b1⟩
  have Sa := hS5.below b1
  have Ba := BT5.below b1
  have kn : Below Wa.heap.size Wa (Wa.alloc (.cells #[.string (bs [99, 97, 110, 111, 110]), .string (bs z)] 9)) := (Below.refl _ _).alloc (Nat.le_refl _) _
  have NB := Blk.new Wa 9 [.string (bs [99, 97, 110, 111, 110]), .string (bs z)]
  have Sb := Sa.below kn
  have LN := Hh (line_any b H0 Wa.heap.size 2 [[99, 97, 110, 111, 110], z] _ (Ba.below kn) NB (Nat.le_refl 2) (show 2 ≤ 100000 by decide) (by simp [joinC]; omega) (by omega))
  clear Sa Ba kn NB b1 QU d2 hS5 BT5
  go_wp2_with fail
  refine LN.out.mono ?_
  rintro _ Wc ⟨rfl, Bc, b2, -⟩
  have Sc := Sb.line b2 hwb
  clear LN Sb b2
  go_wp2_with fail
  go_meet
  case rel => exact ⟨Sc, by rw [HE.out]; exact Bc⟩
  rename_i hx
  rw [h04] at hx
  cases hx
 clear hS5 BT5 d2
 obtain ⟨S2, B2⟩ := hcut
 have l2 : (H0 ++ lineQ [99, 97, 110, 111, 110] canon).length ≤ 8200 := by
  have := lineQ_len [99, 97, 110, 111, 110] canon (by decide)
  rw [List.length_append]; omega
 generalize H0 ++ lineQ [99, 97, 110, 111, 110] canon = Q1 at *
 clear H0 hHl
 have d3 := S2.1.cell_ 3 HL3.out
 go_upto_if 28 with fail
 go_cut [] (fun wx => FB w rc wx ∧ BT wx b (Q1 ++ lineQ [104, 111, 115, 116] host))
 case first =>
  by_cases h0 : host = []
  case pos =>
   subst h0
   clear HRZ
   go_wp2_with fail
   go_meet
   case rel => exact ⟨S2, by rw [lineQ_no, List.append_nil]; exact B2⟩
  have h0' : (host != []) = true := by simpa using h0
  have h0'' : (host == []) = false := by simpa using h0
  have h03 : host.isEmpty = false := by simpa using h0
  have h04 : (!host.isEmpty) = true := by rw [h03]; rfl
  have QU := Hh (fun V => squoted_any host (by omega) V)
  have ql := quoL_len host
  have HE : Hid (Q1 ++ lineQ [104, 111, 115, 116] host = Q1 ++ joinC 32 [[104, 111, 115, 116], quoL host] ++ [10]) := Hh (by rw [lineQ_yes h0, List.append_assoc])
  clear HRZ h0
  generalize quoL host = z at *
  go_wp2_with fail
  refine (QU.out _).mono ?_
  rintro _ Wa ⟨rfl, b1⟩
  have Sa := S2.below b1
  have Ba := B2.below b1
  have kn : Below Wa.heap.size Wa (Wa.alloc (.cells #[.string (bs [104, 111, 115, 116]), .string (bs z)] 9)) := (Below.refl _ _).alloc (Nat.le_refl _) _
  have NB := Blk.new Wa 9 [.string (bs [104, 111, 115, 116]), .string (bs z)]
  have Sb := Sa.below kn
  have LN := Hh (line_any b Q1 Wa.heap.size 2 [[104, 111, 115, 116], z] _ (Ba.below kn) NB (Nat.le_refl 2) (show 2 ≤ 100000 by decide) (by simp [joinC]; omega) (by omega))
  clear Sa Ba kn NB b1 QU d3 S2 B2
  go_wp2_with fail
  refine LN.out.mono ?_
  rintro _ Wc ⟨rfl, Bc, b2, -⟩
  have Sc := Sb.line b2 hwb
  clear LN Sb b2
  go_wp2_with fail
  go_meet
  case rel => exact ⟨Sc, by rw [HE.out]; exact Bc⟩
  rename_i hx
  rw [h04] at hx
  cases hx
 clear S2 B2 d3
 obtain ⟨S3, B3⟩ := hcut
 have l3 : (Q1 ++ lineQ [104, 111, 115, 116] host).length ≤ 16300 := by
  have := lineQ_len [104, 111, 115, 116] host (by decide)
  rw [List.length_append]; omega
 generalize Q1 ++ lineQ [104, 111, 115, 116] host = Q2 at *
 clear Q1 l2
 have d4 := S3.1.cell_ 4 HL4.out
 go_upto_if 37 with fail
 go_cut [] (fun wx => FB w rc wx ∧ BT wx b (Q2 ++ lineQ [115, 101, 114, 118, 105, 99, 101] serv))
 case first =>
  by_cases h0 : serv = []
  case pos =>
   subst h0
   clear HRZ
   go_wp2_with fail
   go_meet
   case rel => exact ⟨S3, by rw [lineQ_no, List.append_nil]; exact B3⟩
  have h0' : (serv != []) = true := by simpa using h0
  have h0'' : (serv == []) = false := by simpa using h0
  have h03 : serv.isEmpty = false := by simpa using h0
  have h04 : (!serv.isEmpty) = true := by rw [h03]; rfl
  have QU := Hh (fun V => squoted_any serv (by omega) V)
  have ql := quoL_len serv
  have HE : Hid (Q2 ++ lineQ [115, 101, 114, 118, 105, 99, 101] serv = Q2 ++ joinC 32 [[115, 101, 114, 118, 105, 99, 101], quoL serv] ++ [10]) := Hh (by rw [lineQ_yes h0, List.append_assoc])
  clear HRZ h0
  generalize quoL serv = z at *
  go_wp2_with fail
  refine (QU.out _).mono ?_
  rintro _ Wa ⟨rfl, b1⟩
  have Sa := S3.below b1
  have Ba := B3.below b1
  have kn : Below Wa.heap.size Wa (Wa.alloc (.cells #[.string (bs [115, 101, 114, 118, 105, 99, 101]), .string (bs z)] 9)) := (Below.refl _ _).alloc (Nat.le_refl _) _
  have NB := Blk.new Wa 9 [.string (bs [115, 101, 114, 118, 105, 99, 101]), .string (bs z)]
  have Sb := Sa.below kn
  have LN := Hh (line_any b Q2 Wa.heap.size 2 [[115, 101, 114, 118, 105, 99, 101], z] _ (Ba.below kn) NB (Nat.le_refl 2) (show 2 ≤ 100000 by decide) (by simp [joinC]; omega) (by omega))
  clear Sa Ba kn NB b1 QU d4 S3 B3
  go_wp2_with fail
  refine LN.out.mono ?_
  rintro _ Wc ⟨rfl, Bc, b2, -⟩
  have Sc := Sb.line b2 hwb
  clear LN Sb b2
  go_wp2_with fail
  go_meet
  case rel => exact ⟨Sc, by rw [HE.out]; exact Bc⟩
  rename_i hx
  rw [h04] at hx
  cases hx
 clear S3 B3 d4
 obtain ⟨S4, B4⟩ := hcut
 have l4 : (Q2 ++ lineQ [115, 101, 114, 118, 105, 99, 101] serv).length ≤ 24400 := by
  have := lineQ_len [115, 101, 114, 118, 105, 99, 101] serv (by decide)
  rw [List.length_append]; omega
 generalize Q2 ++ lineQ [115, 101, 114, 118, 105, 99, 101] serv = Q3 at *
 clear Q2 l3
 have d1 := S4.1.cell_ 1 HL1.out
 clear HL2 HL3 HL4 HL0
 have IL : Hid (∀ k, ((infos.take k).flatMap infT).length ≤ 1000 * infos.length) := Hh (fun k => fm_take infT 1000 infos (infs_len HII.out) k)
 have RL : Hid (∀ k, ((recs.take k).flatMap rrT).length ≤ 10000 * recs.length) := Hh (fun k => fm_take rrT 10000 recs (fun r hr => rrT_len (HR4.out r hr)) k)
 go_wp2_with fail
 clear d1
 go_loopw [47] (fun iv wr => ∃ k : Nat, k ≤ infos.length ∧ iv = .int .i64 k ∧ FB w rc wr ∧ BT wr b (Q3 ++ (infos.take k).flatMap infT)) (fun iv _ => infos.length - (intOf iv).toNat)
 case atStart => exact ⟨0, Nat.zero_le _, rfl, S4, by simpa using B4⟩
 clear S4 B4
 obtain ⟨k, hk, rfl, S, B⟩ := hrel
 have hql : (Q3 ++ (infos.take k).flatMap infT).length ≤ 200000 := by
  have := IL.out k
  rw [List.length_append]; omega
 by_cases hlt : k < infos.length
 case pos =>
  have hlt' : (k : Int) < infos.length := by omega
  obtain ⟨ba, oa, hAi, la, xa⟩ := HII.out (by omega)
  subst hAi
  obtain ⟨cs, hcs, hci⟩ := xa k hlt
  have hcs1 := range_below hcs S.2 la
  have HX : Hid (Q3 ++ (infos.take (k + 1)).flatMap infT = Q3 ++ (infos.take k).flatMap infT ++ joinC 32 (infL infos[k]) ++ [10]) := Hh (by rw [fm_next infT hlt, infT, ← List.append_assoc, ← List.append_assoc])
  have hxi := infT_len infos[k] hci.2
  generalize infos[k] = x at *
  generalize Q3 ++ (infos.take k).flatMap infT = P at *
  have hcl : cs.length = 20 := by rw [hci.1]; exact infC_len hci.2.1
  have hone : ∀ v ∈ cs, v.oneCell' = true := by rw [hci.1]; exact infC_one x
  clear xa hcs HRZ IL RL
  have Zq := Blk.new wr 53 infZ
  go_wp2_with (first
   | (refine at_op (.load 53 (.tmp 49)) rfl ?_; go_must (refine wpList_ldR rfl 53 (.tmp 49) rfl ba (oa + k * 20) rfl cs hcs1 _ underlying53 rfl (by rw [hcl]; exact infInfo) ?_))
   | (refine at_op (.store 53 (.tmp 6) (.tmp 50)) rfl ?_; go_must (refine wpList_stB rfl _ _ _ rfl wr.heap.size 0 rfl cs rfl Zq (by rw [hcl]; decide) (by rw [hcl]; exact infInfo) hone ?_)))
  intro w1 B1 g1 sw
  clear sw
  have hzl : infZ.length = 20 := rfl
  have X1 := blkAll B1 (by omega)
  have kn : Below wr.heap.size wr w1 := below_grown ((Below.refl _ _).alloc (Nat.le_refl _) _) g1 (by simp) (Nat.le_refl _)
  have hgb : wr.heap.size ≠ b := by have := B.lt; omega
  have S1 := S.below kn
  have T1 := B.below kn
  have L0 : (cs.drop 0).take 18 = x.a.cells := by rw [hci.1]; exact infC_ad hci.2.1
  have L18 : cs[18]? = some (.int .i64 x.port) := by rw [hci.1]; exact infC_18 hci.2.1
  have L19 : cs[19]? = some (.int .i64 x.sock) := by rw [hci.1]; exact infC_19 hci.2.1
  have HCI := Hh hci.2
  obtain ⟨gq, hgq⟩ : ∃ gq, Hid (wr.heap.size = gq) := ⟨_, Hh rfl⟩
  rw [hgq.out] at X1 hgb ⊢
  clear B1 g1 Zq kn S B hcs1 hci hone hgq
  go_wp2_with fail
  refine wp_region_held_drew (S := fun V => FB w rc V ∧ Blk V gq 53 cs) (by kernel_rfl) ⟨S1.drew, X1⟩ (fun hS => ?_)
  refine held_seq hS 7 [0,1,2,4,5,8,9] rfl (by kernel_rfl) (fun _ _ _ _ _ h => h) rfl rfl ?_
  (refine ⟨_, (.func (.func 16) #[] #[.pointer (some ⟨b, 0, none⟩)]), rfl, .inl ⟨rfl, fun V hV => rfl⟩, ?_⟩; simp only [Act.put, lsA, lsB, lsC])
  (refine ⟨_, (.pointer (some ⟨gq, 0, none⟩)), rfl, .inl ⟨rfl, fun V hV => rfl⟩, ?_⟩; simp only [Act.put, lsA, lsB, lsC])
  (refine ⟨_, _, rfl, .inl ⟨rfl, fun V hV => (exec_ld 31 (.tmp 52) ⟨gq, 0, none⟩ rfl rfl (hV.2.loads 31 0 18 (by omega) _ underlying31 rfl adrInfo x.a.cells L0))⟩, ?_⟩; simp only [Act.put, lsA, lsB, lsC])
  (refine ⟨_, (.pointer (some ⟨gq, 18, none⟩)), rfl, .inl ⟨rfl, fun V hV => rfl⟩, ?_⟩; simp only [Act.put, lsA, lsB, lsC])
  (refine ⟨_, _, rfl, .inl ⟨rfl, fun V hV => (exec_ld 3 (.tmp 55) ⟨gq, 18, none⟩ rfl rfl (run_load1 underlying3 rfl (hV.2.cell_ 18 L18)))⟩, ?_⟩; simp only [Act.put, lsA, lsB, lsC])
  (refine ⟨_, (.pointer (some ⟨gq, 19, none⟩)), rfl, .inl ⟨rfl, fun V hV => rfl⟩, ?_⟩; simp only [Act.put, lsA, lsB, lsC])
  (refine ⟨_, _, rfl, .inl ⟨rfl, fun V hV => (exec_ld 3 (.tmp 59) ⟨gq, 19, none⟩ rfl rfl (run_load1 underlying3 rfl (hV.2.cell_ 19 L19)))⟩, ?_⟩; simp only [Act.put, lsA, lsB, lsC])
  simp only [SeqC]
  obtain ⟨V0, hV0⟩ : ∃ V0, Hid (w1.drew = V0) := ⟨_, Hh rfl⟩
  have T1 : BT w1.drew b P := T1
  rw [hV0.out] at hS T1 ⊢
  clear hV0 S1 X1
  have AT := Hh (adrText_any x.a HCI.out.1 HCI.out.2.1.2 V0 (HTb.out.below hS.1.2))
  refine held_call 3 (some 54) 23 #[.agg x.a.cells.toArray] (by kernel_rfl) rfl rfl (by kernel_rfl) (by go_simp) AT.out ?_
  rintro _ V1 ⟨rfl, b1⟩
  have hS1 : FB w rc V1 ∧ Blk V1 gq 53 cs := ⟨hS.1.below b1, hS.2.below b1 hS.2.lt⟩
  have T2 := T1.below b1
  clear hS T1 b1 AT
  refine ⟨_, rfl, hS1, ?_⟩
  simp only [Act.put, lsA, lsB, lsC]
  have DG := Hh (digits_any x.port HCI.out.2.2.1.1 HCI.out.2.2.1.2 V1 (HTb.out.below hS1.1.2))
  refine held_call 6 (some 57) 24 #[.int .i64 x.port] (by kernel_rfl) rfl rfl (by kernel_rfl) (by go_simp) DG.out ?_
  rintro _ V2 ⟨rfl, b1⟩
  have hS2 : FB w rc V2 ∧ Blk V2 gq 53 cs := ⟨hS1.1.below b1, hS1.2.below b1 hS1.2.lt⟩
  have T3 := T2.below b1
  clear hS1 T2 b1 DG
  refine ⟨_, rfl, hS2, ?_⟩
  simp only [Act.put, lsA, lsB, lsC]
  have KD := Hh (kinds_any V2)
  refine held_call 7 (some 58) 25 #[] (by kernel_rfl) rfl rfl (by kernel_rfl) (by go_simp) KD.out ?_
  rintro _ V3 ⟨gk, rfl, hgk, _, b1⟩
  have hS3 : FB w rc V3 ∧ Blk V3 gq 53 cs := ⟨hS2.1.below b1, hS2.2.below b1 hS2.2.lt⟩
  have T4 := T3.below b1
  clear hS2 T3 b1 KD
  refine ⟨_, rfl, hS3, ?_⟩
  simp only [Act.put, lsA, lsB, lsC]
  have WO := Hh (word_any kindL (by decide) 1 x.sock (.inr rfl) HCI.out.2.2.2.1 HCI.out.2.2.2.2 gk V3 hgk (HTb.out.below hS3.1.2))
  refine held_call 10 (some 61) 20 #[.slice (some ⟨gk, 0, none⟩) kindL.length kindL.length, .int .i64 1, .int .i64 x.sock] (by kernel_rfl) rfl rfl (by kernel_rfl) (by go_simp) WO.out ?_
  rintro _ V4 ⟨rfl, b1⟩
  have hS4 : FB w rc V4 ∧ Blk V4 gq 53 cs := ⟨hS3.1.below b1, hS3.2.below b1 hS3.2.lt⟩
  have T5 := T4.below b1
  clear hS3 T4 b1 WO hgk
  refine ⟨_, rfl, hS4, ?_⟩
  simp only [Act.put, lsA, lsB, lsC]
  have kn : Below V4.heap.size V4 (V4.alloc (.cells #[.string (bs [97, 100, 100, 114]), .string (bs (adrT x.a)), .string (bs (Lib.itoa x.port)), .string (bs (wordT kindL 1 x.sock))] 9)) := (Below.refl _ _).alloc (Nat.le_refl _) _
  have NB := Blk.new V4 9 [.string (bs [97, 100, 100, 114]), .string (bs (adrT x.a)), .string (bs (Lib.itoa x.port)), .string (bs (wordT kindL 1 x.sock))]
  have hS5 : FB w rc (V4.alloc (.cells #[.string (bs [97, 100, 100, 114]), .string (bs (adrT x.a)), .string (bs (Lib.itoa x.port)), .string (bs (wordT kindL 1 x.sock))] 9)) ∧ Blk (V4.alloc (.cells #[.string (bs [97, 100, 100, 114]), .string (bs (adrT x.a)), .string (bs (Lib.itoa x.port)), .string (bs (wordT kindL 1 x.sock))] 9)) gq 53 cs := ⟨hS4.1.below kn, hS4.2.below kn hS4.2.lt⟩
  have T6 := T5.below kn
  refine held_run 11 (some 62) (by kernel_rfl) rfl rfl (by kernel_rfl) (exec_bs4 (.const (.string ⟨#[97, 100, 100, 114]⟩)) (.tmp 54) (.tmp 57) (.tmp 61) rfl rfl rfl rfl rfl) hS5 ?_
  simp only [Act.put, lsA, lsB, lsC]
  have hj : (joinC 32 (infL x)).length ≤ 1000 := by
   have e : infT x = joinC 32 (infL x) ++ [10] := rfl
   rw [e, List.length_append] at hxi
   omega
  have LN := Hh (line_any b P V4.heap.size 4 (infL x) _ T6 NB (Nat.le_refl 4) (show 4 ≤ 100000 by decide) (by omega) (by omega))
  rw [← HX.out] at LN
  clear hS4 T5 kn NB T6 hj hxi
  refine held_call 12 (some 63) 16 #[.slice (some ⟨V4.heap.size, 0, none⟩) 4 4, .pointer (some ⟨b, 0, none⟩)] (by kernel_rfl) rfl rfl (by kernel_rfl) (by go_simp) LN.out ?_
  rintro _ V6 ⟨rfl, T7, b1, k1⟩
  have hS6 : FB w rc V6 ∧ Blk V6 gq 53 cs := ⟨hS5.1.line b1 hwb, k1.blk hS5.2 hgb (by decide)⟩
  clear hS5 LN b1 k1
  refine ⟨_, rfl, hS6, ?_⟩
  simp only [Act.put, lsA, lsB, lsC]
  refine wpAnyH_done (by kernel_rfl) ?_ _
  have S7 := hS6.1
  clear hS6
  go_wp2_with fail
  go_roundw
  case rel => exact ⟨k + 1, by omega, by go_num, S7, T7⟩
  case measure => simp [intOf]; omega
 obtain rfl : k = infos.length := by omega
 have hlt' : ¬ (infos.length : Int) < infos.length := by omega
 rw [List.take_of_length_le (Nat.le_refl _)] at B hql
 generalize Q3 ++ infos.flatMap infT = Q4 at *
 have d5 := S.1.cell_ 5 HL5.out
 clear IL HII HL1 hlt
 go_wp2_with fail
 clear d5
 go_loopw [68] (fun iv wr => ∃ k : Nat, k ≤ recs.length ∧ iv = .int .i64 k ∧ FB w rc wr ∧ BT wr b (Q4 ++ (recs.take k).flatMap rrT)) (fun iv _ => recs.length - (intOf iv).toNat)
 case atStart => exact ⟨0, Nat.zero_le _, rfl, S, by simpa using B⟩
 clear S B
 obtain ⟨k, hk, rfl, S, B⟩ := hrel
 have hql2 : (Q4 ++ (recs.take k).flatMap rrT).length ≤ 900000 := by
  have := RL.out k
  rw [List.length_append]; omega
 by_cases hlt : k < recs.length
 case pos =>
  have hlt' : (k : Int) < recs.length := by omega
  obtain ⟨ba, oa, hAi, la, xa⟩ := HRR.out (by omega)
  subst hAi
  obtain ⟨cs, hcs, hci⟩ := xa k hlt
  have hcs1 := range_below hcs S.2 la
  have HX : Hid (Q4 ++ (recs.take (k + 1)).flatMap rrT = Q4 ++ (recs.take k).flatMap rrT ++ joinC 32 (rrL recs[k]) ++ [10]) := Hh (by rw [fm_next rrT hlt, rrT, ← List.append_assoc, ← List.append_assoc])
  have h4 := HR4.out recs[k] (List.getElem_mem hlt)
  have hxi := rrT_len h4
  generalize recs[k] = x at *
  generalize Q4 ++ (recs.take k).flatMap rrT = P at *
  have hcl : cs.length = 33 := hci.len
  have hone : ∀ v ∈ cs, v.oneCell' = true := hci.one
  clear xa hcs HRZ RL hql
  have Zq := Blk.new wr 45 rrZ
  go_wp2_with (first
   | (refine at_op (.load 45 (.tmp 70)) rfl ?_; go_must (refine wpList_ldR rfl 45 (.tmp 70) rfl ba (oa + k * 33) rfl cs hcs1 _ underlying45 rfl (by rw [hcl]; exact rrInfo) ?_))
   | (refine at_op (.store 45 (.tmp 8) (.tmp 71)) rfl ?_; go_must (refine wpList_stB rfl _ _ _ rfl wr.heap.size 0 rfl cs rfl Zq (by rw [hcl]; decide) (by rw [hcl]; exact rrInfo) hone ?_)))
  intro w1 B1 g1 sw
  clear sw
  have hzl : rrZ.length = 33 := rfl
  have X1 := blkAll B1 (by omega)
  have kn : Below wr.heap.size wr w1 := below_grown ((Below.refl _ _).alloc (Nat.le_refl _) _) g1 (by simp) (Nat.le_refl _)
  have hgb : wr.heap.size ≠ b := by have := B.lt; omega
  have S1 := S.below kn
  have T1 := B.below kn
  obtain ⟨An, cn, At, ct, Am, cm, hce, hwf, hN, hTg, _, _⟩ := hci
  have L0 : cs[0]? = some (.slice An x.name.length cn) := by rw [hce]; rfl
  have L3 : cs[3]? = some (.int .i64 x.ttl) := by rw [hce]; rfl
  have L22 : cs[22]? = some (.slice At x.tg.length ct) := by rw [hce]; exact rrC_22 hwf
  have L24 : cs[24]? = some (.int .i64 x.pri) := by rw [hce]; exact rrC_24 hwf
  have L25 : cs[25]? = some (.int .i64 x.we) := by rw [hce]; exact rrC_25 hwf
  have L26 : cs[26]? = some (.int .i64 x.po) := by rw [hce]; exact rrC_26 hwf
  have H4 := Hh h4
  have HN := Hh hN
  have HTG := Hh hTg
  obtain ⟨gq, hgq⟩ : ∃ gq, Hid (wr.heap.size = gq) := ⟨_, Hh rfl⟩
  rw [hgq.out] at X1 hgb ⊢
  clear B1 g1 Zq kn S B hcs1 hce hwf hN hTg h4 hone hgq
  go_wp2_with fail
  refine wp_region_held_drew (S := fun V => FB w rc V ∧ Blk V gq 45 cs) (by kernel_rfl) ⟨S1.drew, X1⟩ (fun hS => ?_)
  refine held_seq hS 13 [0,1,2,4,5,7,8,10,11,13,14,16,17] rfl (by kernel_rfl) (fun _ _ _ _ _ h => h) rfl rfl ?_
  (refine ⟨_, (.func (.func 16) #[] #[.pointer (some ⟨b, 0, none⟩)]), rfl, .inl ⟨rfl, fun V hV => rfl⟩, ?_⟩; simp only [Act.put, lsA, lsB, lsC])
  (refine ⟨_, (.pointer (some ⟨gq, 0, none⟩)), rfl, .inl ⟨rfl, fun V hV => rfl⟩, ?_⟩; simp only [Act.put, lsA, lsB, lsC])
  (refine ⟨_, _, rfl, .inl ⟨rfl, fun V hV => (exec_ld 42 (.tmp 73) ⟨gq, 0, none⟩ rfl rfl (run_load1 underlying42 rfl (hV.2.cell_ 0 L0)))⟩, ?_⟩; simp only [Act.put, lsA, lsB, lsC])
  (refine ⟨_, (.pointer (some ⟨gq, 3, none⟩)), rfl, .inl ⟨rfl, fun V hV => rfl⟩, ?_⟩; simp only [Act.put, lsA, lsB, lsC])
  (refine ⟨_, _, rfl, .inl ⟨rfl, fun V hV => (exec_ld 3 (.tmp 76) ⟨gq, 3, none⟩ rfl rfl (run_load1 underlying3 rfl (hV.2.cell_ 3 L3)))⟩, ?_⟩; simp only [Act.put, lsA, lsB, lsC])
  (refine ⟨_, (.pointer (some ⟨gq, 24, none⟩)), rfl, .inl ⟨rfl, fun V hV => rfl⟩, ?_⟩; simp only [Act.put, lsA, lsB, lsC])
  (refine ⟨_, _, rfl, .inl ⟨rfl, fun V hV => (exec_ld 3 (.tmp 79) ⟨gq, 24, none⟩ rfl rfl (run_load1 underlying3 rfl (hV.2.cell_ 24 L24)))⟩, ?_⟩; simp only [Act.put, lsA, lsB, lsC])
  (refine ⟨_, (.pointer (some ⟨gq, 25, none⟩)), rfl, .inl ⟨rfl, fun V hV => rfl⟩, ?_⟩; simp only [Act.put, lsA, lsB, lsC])
  (refine ⟨_, _, rfl, .inl ⟨rfl, fun V hV => (exec_ld 3 (.tmp 82) ⟨gq, 25, none⟩ rfl rfl (run_load1 underlying3 rfl (hV.2.cell_ 25 L25)))⟩, ?_⟩; simp only [Act.put, lsA, lsB, lsC])
  (refine ⟨_, (.pointer (some ⟨gq, 26, none⟩)), rfl, .inl ⟨rfl, fun V hV => rfl⟩, ?_⟩; simp only [Act.put, lsA, lsB, lsC])
  (refine ⟨_, _, rfl, .inl ⟨rfl, fun V hV => (exec_ld 3 (.tmp 85) ⟨gq, 26, none⟩ rfl rfl (run_load1 underlying3 rfl (hV.2.cell_ 26 L26)))⟩, ?_⟩; simp only [Act.put, lsA, lsB, lsC])
  (refine ⟨_, (.pointer (some ⟨gq, 22, none⟩)), rfl, .inl ⟨rfl, fun V hV => rfl⟩, ?_⟩; simp only [Act.put, lsA, lsB, lsC])
  (refine ⟨_, _, rfl, .inl ⟨rfl, fun V hV => (exec_ld 42 (.tmp 88) ⟨gq, 22, none⟩ rfl rfl (run_load1 underlying42 rfl (hV.2.cell_ 22 L22)))⟩, ?_⟩; simp only [Act.put, lsA, lsB, lsC])
  simp only [SeqC]
  obtain ⟨V0, hV0⟩ : ∃ V0, Hid (w1.drew = V0) := ⟨_, Hh rfl⟩
  have T1 : BT w1.drew b P := T1
  rw [hV0.out] at hS T1 ⊢
  clear hV0 S1 X1
  have CL := Hh (domText_any An cn x.name V0 (HN.out.below (hS.1.2)) H4.out.2.1)
  refine held_call 3 (some 75) 26 #[.slice An x.name.length cn] (by kernel_rfl) rfl rfl (by kernel_rfl) (by go_simp) CL.out ?_
  rintro _ V1 ⟨rfl, b1⟩
  have hS1 : FB w rc V1 ∧ Blk V1 gq 45 cs := ⟨hS.1.below b1, hS.2.below b1 hS.2.lt⟩
  have T2 := T1.below b1
  clear hS T1 b1 CL
  refine ⟨_, rfl, hS1, ?_⟩
  simp only [Act.put, lsA, lsB, lsC]
  have CL := Hh (digits_any x.ttl H4.out.1.1.1 H4.out.1.1.2 V1 (HTb.out.below hS1.1.2))
  refine held_call 6 (some 78) 24 #[.int .i64 x.ttl] (by kernel_rfl) rfl rfl (by kernel_rfl) (by go_simp) CL.out ?_
  rintro _ V2 ⟨rfl, b1⟩
  have hS2 : FB w rc V2 ∧ Blk V2 gq 45 cs := ⟨hS1.1.below b1, hS1.2.below b1 hS1.2.lt⟩
  have T3 := T2.below b1
  clear hS1 T2 b1 CL
  refine ⟨_, rfl, hS2, ?_⟩
  simp only [Act.put, lsA, lsB, lsC]
  have CL := Hh (digits_any x.pri H4.out.1.2.1.1 H4.out.1.2.1.2 V2 (HTb.out.below hS2.1.2))
  refine held_call 9 (some 81) 24 #[.int .i64 x.pri] (by kernel_rfl) rfl rfl (by kernel_rfl) (by go_simp) CL.out ?_
  rintro _ V3 ⟨rfl, b1⟩
  have hS3 : FB w rc V3 ∧ Blk V3 gq 45 cs := ⟨hS2.1.below b1, hS2.2.below b1 hS2.2.lt⟩
  have T4 := T3.below b1
  clear hS2 T3 b1 CL
  refine ⟨_, rfl, hS3, ?_⟩
  simp only [Act.put, lsA, lsB, lsC]
  have CL := Hh (digits_any x.we H4.out.1.2.2.1.1 H4.out.1.2.2.1.2 V3 (HTb.out.below hS3.1.2))
  refine held_call 12 (some 84) 24 #[.int .i64 x.we] (by kernel_rfl) rfl rfl (by kernel_rfl) (by go_simp) CL.out ?_
  rintro _ V4 ⟨rfl, b1⟩
  have hS4 : FB w rc V4 ∧ Blk V4 gq 45 cs := ⟨hS3.1.below b1, hS3.2.below b1 hS3.2.lt⟩
  have T5 := T4.below b1
  clear hS3 T4 b1 CL
  refine ⟨_, rfl, hS4, ?_⟩
  simp only [Act.put, lsA, lsB, lsC]
  have CL := Hh (digits_any x.po H4.out.1.2.2.2.1 H4.out.1.2.2.2.2 V4 (HTb.out.below hS4.1.2))
  refine held_call 15 (some 87) 24 #[.int .i64 x.po] (by kernel_rfl) rfl rfl (by kernel_rfl) (by go_simp) CL.out ?_
  rintro _ V5 ⟨rfl, b1⟩
  have hS5 : FB w rc V5 ∧ Blk V5 gq 45 cs := ⟨hS4.1.below b1, hS4.2.below b1 hS4.2.lt⟩
  have T6 := T5.below b1
  clear hS4 T5 b1 CL
  refine ⟨_, rfl, hS5, ?_⟩
  simp only [Act.put, lsA, lsB, lsC]
  have CL := Hh (domText_any At ct x.tg V5 (HTG.out.below (hS5.1.2)) H4.out.2.2)
  refine held_call 18 (some 90) 26 #[.slice At x.tg.length ct] (by kernel_rfl) rfl rfl (by kernel_rfl) (by go_simp) CL.out ?_
  rintro _ V6 ⟨rfl, b1⟩
  have hS6 : FB w rc V6 ∧ Blk V6 gq 45 cs := ⟨hS5.1.below b1, hS5.2.below b1 hS5.2.lt⟩
  have T7 := T6.below b1
  clear hS5 T6 b1 CL
  refine ⟨_, rfl, hS6, ?_⟩
  simp only [Act.put, lsA, lsB, lsC]
  have kn : Below V6.heap.size V6 (V6.alloc (.cells #[.string (bs [116, 97, 114, 103, 101, 116]), .string (bs (nameT x.name)), .string (bs (Lib.itoa x.ttl)), .string (bs (Lib.itoa x.pri)), .string (bs (Lib.itoa x.we)), .string (bs (Lib.itoa x.po)), .string (bs (nameT x.tg))] 9)) := (Below.refl _ _).alloc (Nat.le_refl _) _
  have NB := Blk.new V6 9 [.string (bs [116, 97, 114, 103, 101, 116]), .string (bs (nameT x.name)), .string (bs (Lib.itoa x.ttl)), .string (bs (Lib.itoa x.pri)), .string (bs (Lib.itoa x.we)), .string (bs (Lib.itoa x.po)), .string (bs (nameT x.tg))]
  obtain ⟨VA, hVA⟩ : ∃ VA, Hid (V6.alloc (.cells #[.string (bs [116, 97, 114, 103, 101, 116]), .string (bs (nameT x.name)), .string (bs (Lib.itoa x.ttl)), .string (bs (Lib.itoa x.pri)), .string (bs (Lib.itoa x.we)), .string (bs (Lib.itoa x.po)), .string (bs (nameT x.tg))] 9) = VA) := ⟨_, Hh rfl⟩
  have hS7 : FB w rc (V6.alloc (.cells #[.string (bs [116, 97, 114, 103, 101, 116]), .string (bs (nameT x.name)), .string (bs (Lib.itoa x.ttl)), .string (bs (Lib.itoa x.pri)), .string (bs (Lib.itoa x.we)), .string (bs (Lib.itoa x.po)), .string (bs (nameT x.tg))] 9)) ∧ Blk (V6.alloc (.cells #[.string (bs [116, 97, 114, 103, 101, 116]), .string (bs (nameT x.name)), .string (bs (Lib.itoa x.ttl)), .string (bs (Lib.itoa x.pri)), .string (bs (Lib.itoa x.we)), .string (bs (Lib.itoa x.po)), .string (bs (nameT x.tg))] 9)) gq 45 cs := ⟨hS6.1.below kn, hS6.2.below kn hS6.2.lt⟩
  have T8 := T7.below kn
  refine held_run 19 (some 91) (by kernel_rfl) rfl rfl (by kernel_rfl) (exec_bt7 (.const (.string ⟨#[116, 97, 114, 103, 101, 116]⟩)) (.tmp 75) (.tmp 78) (.tmp 81) (.tmp 84) (.tmp 87) (.tmp 90) rfl rfl rfl rfl rfl rfl rfl rfl) hS7 ?_
  simp only [Act.put, lsA, lsB, lsC]
  have hj : (joinC 32 (rrL x)).length ≤ 10000 := by
   have e : rrT x = joinC 32 (rrL x) ++ [10] := rfl
   rw [e, List.length_append] at hxi
   omega
  have LN := Hh (line_any b P V6.heap.size 7 (rrL x) _ T8 NB (Nat.le_refl 7) (show 7 ≤ 100000 by decide) (by omega) (by omega))
  rw [← HX.out] at LN
  clear hS6 T7 kn NB T8 hj hxi
  refine held_call 20 (some 92) 16 #[.slice (some ⟨V6.heap.size, 0, none⟩) 7 7, .pointer (some ⟨b, 0, none⟩)] (by kernel_rfl) rfl rfl (by kernel_rfl) (by go_simp) LN.out ?_
  rintro _ V8 ⟨rfl, T9, b1, k1⟩
  have hS8 : FB w rc V8 ∧ Blk V8 gq 45 cs := ⟨hS7.1.line b1 hwb, k1.blk hS7.2 hgb (by decide)⟩
  clear hS7 LN b1 k1
  refine ⟨_, rfl, hS8, ?_⟩
  simp only [Act.put, lsA, lsB, lsC]
  refine wpAnyH_done (by kernel_rfl) ?_ _
  have S9 := hS8.1
  clear hS8
  go_wp2_with fail
  go_roundw
  case rel => exact ⟨k + 1, by omega, by go_num, S9, T9⟩
  case measure => simp [intOf]; omega
 obtain rfl : k = recs.length := by omega
 have hlt' : ¬ (recs.length : Int) < recs.length := by omega
 rw [List.take_of_length_le (Nat.le_refl _), ← HRZ.out] at B
 clear RL HRR HR4 hlt hql2 HRZ
 have SB : Hid (Calls prog 27 #[.pointer (some ⟨b, 0, none⟩)] wr fun e w' => e = .returned (.string (bs RT)) ∧ (Lib.IsBuilderF 57 5 b b (Lib.byteCells RT) w' ∧ Below b wr w' ∧ OK1 b wr w')) := Hh (Any.Builder_String_any_k Tryz.lays169 Tryz.Builder_Extra_169 b b RT wr B (Nat.le_of_lt B.lt))
 go_wp2_with fail
 refine SB.out.mono ?_
 rintro _ w9 ⟨rfl, _, b9, _⟩
 have S10 := S.line b9 hwb
 go_wp2_with fail
 go_ret
 exact RetB.mk rfl S10.2
end Go.Proofs.YtkcbffldncmbcaaGreatDoor
