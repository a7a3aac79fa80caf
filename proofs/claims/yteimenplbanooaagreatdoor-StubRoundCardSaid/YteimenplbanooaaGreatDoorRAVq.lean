/-
  Layers 1 and 7: Digits, Join; quad.Text.
-/
import Derived.Test.YteimenplbanooaaGreatDoorShfq
import Derived.Test.YteimenplbanooaaGreatDoorRATq
import Derived.Lib.AppendIntMem
import Derived.Laws.MakeOwn
namespace Go.Proofs.YteimenplbanooaaGreatDoor
open _root_.Go.Proofs.Tryz
open Go.RowKit
set_option maxRecDepth 100000
set_option linter.unusedVariables false
set_option linter.unusedSimpArgs false
structure Tb (w : World) : Prop where
 pow : Lib.TabIs prog w "internal/strconv.uint64pow10" .u64 Lib.pow10Tab
 tz : w.cell? ⟨4, 15, none⟩ = some (.int .u8 4)
theorem Tb.below {w w' : World} (h : Tb w) (hb : Below w.heap.size w w') : Tb w' := ⟨Lib.tabBelow_of_tabIs h.pow w' hb, (hb.cell (World.block_lt_of_cell? _ _ h.tz)).trans h.tz⟩
theorem digits_any (n : Int) (h0 : -9223372036854775808 ≤ n) (h1 : n ≤ 9223372036854775807) (w : World) (hT : Tb w) : Calls prog 71 #[.int .i64 n] w (RetB (.string (bs (Lib.itoa n))) w) := by
 have IT := Hh (Tryz.strconv_Itoa n h0 h1 w hT.pow)
 go_enter func71, ntmps71
 go_wp2_with fail
 refine IT.out.mono ?_
 rintro _ w1 ⟨rfl, k, os, rfl⟩
 have hB := Lib.below_grow w.heap.size w (Nat.le_refl _) k os
 clear IT
 obtain ⟨w1, hw1⟩ : ∃ w1, Go.Sort.grow (w.drewN k) os = w1 := ⟨_, rfl⟩
 rw [hw1] at hB ⊢
 go_wp2_with fail
 go_ret
 exact RetB.mk rfl hB
theorem join_joinC (c : UInt8) (ls : List (List UInt8)) : Lib.join ls [c] = joinC c ls := by
 cases ls with
 | nil => rfl
 | cons l ls =>
  rw [Lib.join_cons]
  show l ++ (ls.map ([c] ++ ·)).flatten = l ++ ls.flatMap (fun x => c :: x)
  rw [List.flatMap_def]
  rfl
theorem join_any (c : UInt8) (A : Addr) (cap : Nat) (ls : List (List UInt8)) (w : World) (hc : ∀ i (hi : i < ls.length), w.cell? ⟨A.block, A.off + i, none⟩ = some (.string (bs ls[i]))) (hA : A.spot = none) (hb : A.block < w.heap.size) (hl : ls.length ≤ cap) (hl2 : ls.length ≤ 100000) (hj : (joinC c ls).length ≤ 140737488355328) :
  Calls prog 93 #[.string (bs [c]), .slice (some A) ls.length cap] w (RetB (.string (bs (joinC c ls))) w) := by
 obtain ⟨b, o, sp⟩ := A
 subst hA
 have e1 : (ls.map bs).map (·.data.toList) = ls := by
  rw [List.map_map]
  conv => rhs; rw [← List.map_id ls]
  refine List.map_congr_left fun x _ => ?_
  exact bs_data x
 have SJ := Tryz.strings_Join b o cap (ls.map bs) (bs [c]) w (fun j x hx => by
  rw [List.getElem?_map] at hx
  obtain ⟨y, hy, rfl⟩ := Option.map_eq_some_iff.1 hx
  obtain ⟨hj, rfl⟩ := List.getElem?_eq_some_iff.1 hy
  exact hc j hj) hb (by simp; omega) (by simpa using hl) (by rw [e1, bs_data, join_joinC]; exact hj)
 rw [e1, bs_data, join_joinC, List.length_map] at SJ
 have SJ := Hh SJ
 clear hc e1
 generalize joinC c ls = R at *
 generalize ls.length = n at *
 go_enter func93, ntmps93
 go_wp2_with fail
 refine SJ.out.mono ?_
 rintro _ w1 ⟨rfl, hB⟩
 clear SJ
 go_wp2_with fail
 go_ret
 exact RetB.mk rfl hB
theorem join0_any (c : UInt8) (A : Option Addr) (cap : Nat) (w : World) : Calls prog 93 #[.string (bs [c]), .slice A 0 cap] w (RetB (.string (bs [])) w) := by
 have SJ := Hh (Tryz.strings_Join_none A cap (bs [c]) w)
 go_enter func93, ntmps93
 go_wp2_with fail
 refine SJ.out.mono ?_
 rintro _ _ ⟨rfl, rfl⟩
 go_wp2_with fail
 go_ret
 exact RetB.mk rfl (Below.refl _ _)
theorem joinT_any (c : UInt8) (v : Value) (ls : List (List UInt8)) (w : World) (h : Txts w v ls) (hl : ls.length ≤ 100000) (hj : (joinC c ls).length ≤ 140737488355328) : Calls prog 93 #[.string (bs [c]), v] w (RetB (.string (bs (joinC c ls))) w) := by
 obtain ⟨A, cap, rfl, hT, hcap⟩ := h.form
 by_cases h0 : ls = []
 ·
  subst h0
  exact join0_any c A cap w
 ·
  have hp : 0 < ls.length := List.length_pos_iff.2 h0
  obtain ⟨b, o, rfl, hb, hc⟩ := hT hp
  exact join_any c ⟨b, o, none⟩ cap ls w hc rfl hb hcap hl hj
theorem mk0 {t e : TypeId} {z : Value} {bytes : Nat} (ht : prog.underlying t = some (.slice e)) (hi : (prog.info? e).map (fun i => (i.zero, i.size, i.bytes)) = some (some z, 1, bytes)) (B c : Nat) (hb : bytes * c ≤ 281474976710656) (hc : c ≤ maxLen) (W : World) (hB : B ≤ W.heap.size) : ∃ W', (Instr.makeSlice t (.int .i64 0) (.int .i64 (c : Int))).run prog W = .ok (.slice (some ⟨W.heap.size, 0, none⟩) 0 c) W' ∧ W'.ownsRow B e 1 (.slice (some ⟨W.heap.size, 0, none⟩) 0 c) 0 [] ∧ Below W.heap.size W W' := by
 obtain ⟨i, hi0, hz, hs, hby⟩ := info_parts hi
 obtain ⟨W', h1, h2, h3⟩ := run_make_own (P := prog) W B t e i z 1 ht hi0 hz hs .i64 .i64 c (by rw [hby]; exact hb) hc hB
 exact ⟨W', h1, h2, (Below.refl _ _).grown h3 (Nat.le_refl _) (fun k hk => by cases hk)⟩
theorem run_bs4 (a b c d : ByteArray) (w : World) : (Instr.buildSlice 70 4 #[(0, .string a), (1, .string b), (2, .string c), (3, .string d)]).run prog w = .ok (.slice (some ⟨w.heap.size, 0, none⟩) 4 4) (w.alloc (.cells #[.string a, .string b, .string c, .string d] 9)) := by kernel_rfl
theorem exec_bs4 {a b c d : ByteArray} {w : World} {o : Oper} {ac : Act} (x0 x1 x2 x3 : Operand) (ho : o.op = .buildSlice 70 4 #[(0, x0), (1, x1), (2, x2), (3, x3)]) (h0 : ac.eval x0 = .string a) (h1 : ac.eval x1 = .string b) (h2 : ac.eval x2 = .string c) (h3 : ac.eval x3 = .string d) : (execOp ac.eval o).run prog w = .ok (.value (.slice (some ⟨w.heap.size, 0, none⟩) 4 4)) (w.alloc (.cells #[.string a, .string b, .string c, .string d] 9)) := by
 unfold execOp
 simp only [ho, Sem.run_bind, Sem.run_pure, Result.andThen_ok, List.map_toArray, List.map_cons, List.map_nil, h0, h1, h2, h3, run_bs4]
theorem itoa_len (n : Int) (h0 : -9223372036854775808 ≤ n) (h1 : n ≤ 9223372036854775807) : (Lib.itoa n).length ≤ 21 := Lib.itoa_length_le n h0 h1
theorem ipN_get {ip : List UInt8} {i : Nat} (h : i < ip.length) : ipN ip i = ip[i].toNat := by simp [ipN, List.getD, h]
theorem adr_ip {a : Adr} {i : Nat} (h : i < a.ip.length) : a.cells[1 + i]? = some (.int .u8 (ipN a.ip i : Int)) := by
 rw [ipN_get h, Nat.add_comm 1 i]
 show (octs a.ip ++ [Value.int .i64 a.zone])[i]? = _
 rw [List.getElem?_append_left (by rw [octs_length]; exact h), octs_get _ _ h]
theorem quadText_any (a : Adr) (hip : a.ip.length = 16) (w : World) (hT : Tb w) : Calls prog 72 #[.agg a.cells.toArray] w (RetB (.string (bs (quadA4 a.ip 0))) w) := by
 have HW : Below w.heap.size w (w.alloc (.cells a.cells.toArray 24)) := (Below.refl _ _).alloc (Nat.le_refl _) _
 have X := Blk.new w 24 a.cells
 have L0 := adr_ip (a := a) (i := 0) (by omega)
 have L1 := adr_ip (a := a) (i := 1) (by omega)
 have L2 := adr_ip (a := a) (i := 2) (by omega)
 have L3 := adr_ip (a := a) (i := 3) (by omega)
 have i0 := ipN_lt a.ip 0
 have i1 := ipN_lt a.ip 1
 have i2 := ipN_lt a.ip 2
 have i3 := ipN_lt a.ip 3
 obtain ⟨R, hR⟩ : ∃ R, Hid (quadA4 a.ip 0 = R) := ⟨_, Hh rfl⟩
 rw [hR.out]
 have HR : Hid (R = quadT (ipN a.ip 0) (ipN a.ip 1) (ipN a.ip 2) (ipN a.ip 3)) := Hh hR.out.symm
 have DG := Hh (fun (n : Nat) (h : n < 256) V (hV : Below w.heap.size w V) => digits_any (n : Int) (by omega) (by omega) V (hT.below hV))
 clear hR hT
 generalize ipN a.ip 0 = x0 at *
 generalize ipN a.ip 1 = x1 at *
 generalize ipN a.ip 2 = x2 at *
 generalize ipN a.ip 3 = x3 at *
 go_enter func72, ntmps72
 go_wp2_with fail
 obtain ⟨W, hW⟩ : ∃ W, Hid (w.alloc (.cells a.cells.toArray 24) = W) := ⟨_, Hh rfl⟩
 rw [hW.out] at X HW ⊢
 have LD : Hid (∀ (i x : Nat), a.cells[1 + i]? = some (.int .u8 (x : Int)) → ∀ V, Below W.heap.size W V → (Instr.loadAt 5 (.pointer (some ⟨w.heap.size, 1 + i, none⟩))).run prog V = .ok (.int .u8 (x : Int)) V) := Hh (fun i x h V hV => run_load1 underlying5 rfl ((X.below hV X.lt).cell_ (1 + i) h))
 refine wp_region_held_drew (S := fun V => Below W.heap.size W V) (by kernel_rfl) (Below.refl _ _).drew (fun hS => ?_)
 refine held_seq hS 16 [0,1,2,3,5,6,7,8,10,11,12,13,15,16,17,18] rfl (by kernel_rfl) (fun _ _ _ _ _ h => h) rfl rfl ?_
 (refine ⟨_, (.pointer (some ⟨w.heap.size, 1, none⟩)), rfl, .inl ⟨rfl, fun V hV => rfl⟩, ?_⟩; simp only [Act.put, lsA, lsB, lsC])
 (refine ⟨_, (.pointer (some ⟨w.heap.size, 1 + 0, none⟩)), rfl, .inl ⟨rfl, fun V hV => rfl⟩, ?_⟩; simp only [Act.put, lsA, lsB, lsC])
 (refine ⟨_, _, rfl, .inl ⟨rfl, fun V hV => (exec_ld 5 (.tmp 4) ⟨w.heap.size, 1 + 0, none⟩ rfl rfl (LD.out 0 x0 L0 V hV))⟩, ?_⟩; simp only [Act.put, lsA, lsB, lsC])
 (refine ⟨_, (.int .i64 (x0 : Int)), rfl, .inl ⟨rfl, fun V hV => (by go_simp; exact IntWalk.i64_in _ (by omega))⟩, ?_⟩; simp only [Act.put, lsA, lsB, lsC])
 (refine ⟨_, (.pointer (some ⟨w.heap.size, 1, none⟩)), rfl, .inl ⟨rfl, fun V hV => rfl⟩, ?_⟩; simp only [Act.put, lsA, lsB, lsC])
 (refine ⟨_, (.pointer (some ⟨w.heap.size, 1 + 1, none⟩)), rfl, .inl ⟨rfl, fun V hV => rfl⟩, ?_⟩; simp only [Act.put, lsA, lsB, lsC])
 (refine ⟨_, _, rfl, .inl ⟨rfl, fun V hV => (exec_ld 5 (.tmp 9) ⟨w.heap.size, 1 + 1, none⟩ rfl rfl (LD.out 1 x1 L1 V hV))⟩, ?_⟩; simp only [Act.put, lsA, lsB, lsC])
 (refine ⟨_, (.int .i64 (x1 : Int)), rfl, .inl ⟨rfl, fun V hV => (by go_simp; exact IntWalk.i64_in _ (by omega))⟩, ?_⟩; simp only [Act.put, lsA, lsB, lsC])
 (refine ⟨_, (.pointer (some ⟨w.heap.size, 1, none⟩)), rfl, .inl ⟨rfl, fun V hV => rfl⟩, ?_⟩; simp only [Act.put, lsA, lsB, lsC])
 (refine ⟨_, (.pointer (some ⟨w.heap.size, 1 + 2, none⟩)), rfl, .inl ⟨rfl, fun V hV => rfl⟩, ?_⟩; simp only [Act.put, lsA, lsB, lsC])
 (refine ⟨_, _, rfl, .inl ⟨rfl, fun V hV => (exec_ld 5 (.tmp 14) ⟨w.heap.size, 1 + 2, none⟩ rfl rfl (LD.out 2 x2 L2 V hV))⟩, ?_⟩; simp only [Act.put, lsA, lsB, lsC])
 (refine ⟨_, (.int .i64 (x2 : Int)), rfl, .inl ⟨rfl, fun V hV => (by go_simp; exact IntWalk.i64_in _ (by omega))⟩, ?_⟩; simp only [Act.put, lsA, lsB, lsC])
 (refine ⟨_, (.pointer (some ⟨w.heap.size, 1, none⟩)), rfl, .inl ⟨rfl, fun V hV => rfl⟩, ?_⟩; simp only [Act.put, lsA, lsB, lsC])
 (refine ⟨_, (.pointer (some ⟨w.heap.size, 1 + 3, none⟩)), rfl, .inl ⟨rfl, fun V hV => rfl⟩, ?_⟩; simp only [Act.put, lsA, lsB, lsC])
 (refine ⟨_, _, rfl, .inl ⟨rfl, fun V hV => (exec_ld 5 (.tmp 19) ⟨w.heap.size, 1 + 3, none⟩ rfl rfl (LD.out 3 x3 L3 V hV))⟩, ?_⟩; simp only [Act.put, lsA, lsB, lsC])
 (refine ⟨_, (.int .i64 (x3 : Int)), rfl, .inl ⟨rfl, fun V hV => (by go_simp; exact IntWalk.i64_in _ (by omega))⟩, ?_⟩; simp only [Act.put, lsA, lsB, lsC])
 simp only [SeqC]
 have h0 := below_then HW HW.size hS
 refine held_call 4 (some 7) 71 #[.int .i64 (x0 : Int)] (by kernel_rfl) rfl rfl (by kernel_rfl) (by go_simp) (DG.out x0 i0 _ h0) ?_
 rintro _ w1 ⟨rfl, b1⟩
 have h1 := below_then h0 h0.size b1
 have hS1 := below_then hS hS.size b1
 refine ⟨_, rfl, hS1, ?_⟩
 simp only [Act.put, lsA, lsB, lsC]
 refine held_call 9 (some 12) 71 #[.int .i64 (x1 : Int)] (by kernel_rfl) rfl rfl (by kernel_rfl) (by go_simp) (DG.out x1 i1 _ h1) ?_
 rintro _ w2 ⟨rfl, b2⟩
 have h2 := below_then h1 h1.size b2
 have hS2 := below_then hS1 hS1.size b2
 refine ⟨_, rfl, hS2, ?_⟩
 simp only [Act.put, lsA, lsB, lsC]
 refine held_call 14 (some 17) 71 #[.int .i64 (x2 : Int)] (by kernel_rfl) rfl rfl (by kernel_rfl) (by go_simp) (DG.out x2 i2 _ h2) ?_
 rintro _ w3 ⟨rfl, b3⟩
 have h3 := below_then h2 h2.size b3
 have hS3 := below_then hS2 hS2.size b3
 refine ⟨_, rfl, hS3, ?_⟩
 simp only [Act.put, lsA, lsB, lsC]
 refine held_call 19 (some 22) 71 #[.int .i64 (x3 : Int)] (by kernel_rfl) rfl rfl (by kernel_rfl) (by go_simp) (DG.out x3 i3 _ h3) ?_
 rintro _ w4 ⟨rfl, b4⟩
 have h4 := below_then h3 h3.size b4
 have hS4 := below_then hS3 hS3.size b4
 refine ⟨_, rfl, hS4, ?_⟩
 simp only [Act.put, lsA, lsB, lsC]
 have hA : Below w4.heap.size w4 (w4.alloc (.cells #[.string (bs (Lib.itoa x0)), .string (bs (Lib.itoa x1)), .string (bs (Lib.itoa x2)), .string (bs (Lib.itoa x3))] 9)) := (Below.refl _ _).alloc (Nat.le_refl _) _
 have NB := Blk.new w4 9 [.string (bs (Lib.itoa x0)), .string (bs (Lib.itoa x1)), .string (bs (Lib.itoa x2)), .string (bs (Lib.itoa x3))]
 have h5 := below_then h4 h4.size hA
 have hS5 := below_then hS4 hS4.size hA
 refine held_run 20 (some 23) (by kernel_rfl) rfl rfl (by kernel_rfl) (exec_bs4 (.tmp 7) (.tmp 12) (.tmp 17) (.tmp 22) rfl rfl rfl rfl rfl) hS5 ?_
 simp only [Act.put, lsA, lsB, lsC]
 have l0 := itoa_len x0 (by omega) (by omega)
 have l1 := itoa_len x1 (by omega) (by omega)
 have l2 := itoa_len x2 (by omega) (by omega)
 have l3 := itoa_len x3 (by omega) (by omega)
 have hJ : joinC 46 [Lib.itoa x0, Lib.itoa x1, Lib.itoa x2, Lib.itoa x3] = R := by rw [HR.out]; simp [joinC, quadT]
 have hRl : R.length ≤ 1000 := by rw [← hJ]; simp [joinC]; omega
 have JN := join_any 46 ⟨w4.heap.size, 0, none⟩ 4 [Lib.itoa x0, Lib.itoa x1, Lib.itoa x2, Lib.itoa x3] _ (fun i hi => by
  have hi4 : i < 4 := hi
  match i, hi4 with
  | 0, _ => exact NB.cell_ 0 rfl
  | 1, _ => exact NB.cell_ 1 rfl
  | 2, _ => exact NB.cell_ 2 rfl
  | 3, _ => exact NB.cell_ 3 rfl) rfl NB.lt (Nat.le_refl 4) (show 4 ≤ 100000 by decide) (by rw [hJ]; omega)
 rw [hJ] at JN
 have JN := Hh JN
 clear NB hA b1 b2 b3 b4 h0 h1 h2 h3 h4 hS hS1 hS2 hS3 hS4 l0 l1 l2 l3 hJ DG LD
 refine held_call 21 (some 24) 93 #[.string (bs [46]), .slice (some ⟨w4.heap.size, 0, none⟩) 4 4] (by kernel_rfl) rfl rfl (by kernel_rfl) (by go_simp; rfl) JN.out ?_
 rintro _ w6 ⟨rfl, b6⟩
 have h6 := below_then h5 h5.size b6
 have hS := below_then hS5 hS5.size b6
 refine ⟨_, rfl, hS, ?_⟩
 simp only [Act.put, lsA, lsB, lsC]
 refine held_seq hS 1 [22] rfl (by kernel_rfl) (fun _ _ _ _ _ h => h) rfl rfl ?_
 (refine ⟨_, (.string (bs R)), rfl, .inl ⟨rfl, fun V hV => rfl⟩, ?_⟩; simp only [Act.put, lsA, lsB, lsC])
 simp only [SeqC]
 refine wpAnyH_done (by kernel_rfl) ?_ _
 go_wp2_with fail
 go_ret
 exact RetB.mk rfl h6
end Go.Proofs.YteimenplbanooaaGreatDoor
