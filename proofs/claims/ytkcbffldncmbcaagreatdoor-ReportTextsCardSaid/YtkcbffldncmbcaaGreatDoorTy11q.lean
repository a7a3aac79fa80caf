/-
  The reference's addr.Text; octets in digits of the base 16, both.
-/
import Derived.Test.YtkcbffldncmbcaaGreatDoorTCq
namespace Go.Proofs.YtkcbffldncmbcaaGreatDoor
open _root_.Go.Proofs.Tryz
open Go.RowKit
set_option maxRecDepth 100000
set_option linter.unusedVariables false
set_option linter.unusedSimpArgs false
theorem ref09Text_any (a : Adr) (hip : a.ip.length = 16) (hz : a.zone ≤ 9223372036854775807) (w : World) : Calls prog 30 #[.agg a.cells.toArray] w (RetB (.string (bs (adrT a))) w) := by
 have hcl := a.cells_len hip
 have HW : Below w.heap.size w (w.alloc (.cells a.cells.toArray 31)) := (Below.refl _ _).alloc (Nat.le_refl _) _
 have X := Blk.new w 31 a.cells
 have QT := Hh (fun V => ref07Text_any a hip V)
 have CT := Hh (fun V => ref08Text_any a hip hz V)
 have L0 : a.cells[0]? = some (.int .i64 a.fam) := rfl
 obtain ⟨R, hR⟩ : ∃ R, Hid (adrT a = R) := ⟨_, Hh rfl⟩
 have HR : Hid (R = if a.fam = 4 then quadA4 a.ip 0 else if a.fam = 6 then colonT a else []) := Hh hR.out.symm
 rw [hR.out]
 clear hR
 generalize quadA4 a.ip 0 = q at *
 generalize colonT a = c at *
 generalize a.fam = f at *
 generalize a.cells = ac at *
 have d0 := X.cell_ 0 L0
 by_cases h4 : f = 4
 case pos =>
  subst h4
  have hR2 := HR.out
  rw [if_pos rfl] at hR2
  subst hR2
  clear HR CT
  go_enter func30, ntmps30
  go_wp2_with (refine at_op (.load 31 (.tmp 1)) rfl ?_; go_must (refine wpList_ldB rfl _ _ rfl w.heap.size 0 rfl X 18 (by omega) _ underlying31 rfl adrInfo ac (tk0 (by omega)) ?_))
  refine (QT.out _).mono ?_
  rintro _ w1 ⟨rfl, b1⟩
  have H1 := below_then HW HW.size b1
  go_wp2_with fail
  go_ret
  exact RetB.mk rfl H1
 have h4' : (f == 4) = false := by simpa using h4
 by_cases h6 : f = 6
 case pos =>
  subst h6
  have hR2 := HR.out
  rw [if_neg (by decide), if_pos rfl] at hR2
  subst hR2
  clear HR QT h4
  go_enter func30, ntmps30
  go_wp2_with (refine at_op (.load 31 (.tmp 1)) rfl ?_; go_must (refine wpList_ldB rfl _ _ rfl w.heap.size 0 rfl X 18 (by omega) _ underlying31 rfl adrInfo ac (tk0 (by omega)) ?_))
  refine (CT.out _).mono ?_
  rintro _ w1 ⟨rfl, b1⟩
  have H1 := below_then HW HW.size b1
  go_wp2_with fail
  go_ret
  exact RetB.mk rfl H1
 have h6' : (f == 6) = false := by simpa using h6
 have hR2 := HR.out
 rw [if_neg h4, if_neg h6] at hR2
 subst hR2
 clear HR QT CT h4 h6
 go_enter func30, ntmps30
 go_wp2_with fail
 go_ret
 exact RetB.mk rfl HW
theorem and_u8_15 (c : UInt8) : bits .and .u8 (c.toNat : Int) 15 = ((c.toNat % 16 : Nat) : Int) := by
 have hc := c.toNat_lt
 show IntKind.u8.wrap ((BitVec.ofInt 8 (c.toNat : Int) &&& BitVec.ofInt 8 (15 : Int)).toNat : Int) = _
 rw [BitVec.toNat_and, BitVec.ofInt_natCast, BitVec.toNat_ofNat, show (BitVec.ofInt 8 (15 : Int)).toNat = 2 ^ 4 - 1 from rfl, Nat.mod_eq_of_lt (by omega), Nat.and_two_pow_sub_one_eq_mod, IntKind.wrap_u8]
 omega
theorem hexD_get {i : Nat} (h : i < 16) {h2} : ({ data := #[48, 49, 50, 51, 52, 53, 54, 55, 56, 57, 97, 98, 99, 100, 101, 102] } : ByteArray)[i]'h2 = hexD i := by
 match i, h with
 | 0, _ | 1, _ | 2, _ | 3, _ | 4, _ | 5, _ | 6, _ | 7, _ | 8, _ | 9, _ | 10, _ | 11, _ | 12, _ | 13, _ | 14, _ | 15, _ => rfl
 | j + 16, h => omega
theorem new_two (w : World) (u v : Value) (t : TypeId) (k : Nat) (hk : k = w.heap.size) : ∀ j x, [u, v][j]? = some x → (w.alloc (.cells #[u, v] t)).cell? ((⟨k, 0, none⟩ : Addr).add j) = some x := by
 subst hk
 intro j x hx
 rcases j with _ | _ | j
 ·
  simp at hx; subst hx; simp [Addr.add, go_sem]
 ·
  simp at hx; subst hx; simp [Addr.add, go_sem]
 ·
  simp at hx
theorem two_cells {u v : Value} (hu : u.oneCell' = true) (hv : v.oneCell' = true) : ∀ x ∈ [u, v], x.oneCell' = true := by simp [hu, hv]
theorem run_bs2 (x y : Int) (w : World) : (Instr.buildSlice 55 2 #[(0, .int .u8 x), (1, .int .u8 y)]).run prog w = .ok (.slice (some ⟨w.heap.size, 0, none⟩) 2 2) (w.alloc (.cells #[.int .u8 x, .int .u8 y] 5)) := by kernel_rfl
theorem exec_bs2 {x y : Int} {w : World} {o : Oper} {ac : Act} (x0 x1 : Operand) (ho : o.op = .buildSlice 55 2 #[(0, x0), (1, x1)]) (h0 : ac.eval x0 = .int .u8 x) (h1 : ac.eval x1 = .int .u8 y) : (execOp ac.eval o).run prog w = .ok (.value (.slice (some ⟨w.heap.size, 0, none⟩) 2 2)) (w.alloc (.cells #[.int .u8 x, .int .u8 y] 5)) := by
 unfold execOp
 simp only [ho, Sem.run_bind, Sem.run_pure, Result.andThen_ok, List.map_toArray, List.map_cons, List.map_nil, h0, h1, run_bs2]
theorem own_text {w : World} {B : Nat} {v : Value} {q : List UInt8} (h : w.ownsRow B 5 1 v q.length (octs q)) : (convert 55 9 v).run prog w = .ok (.string (bs q)) w := by
 obtain ⟨A, c, rfl⟩ := own_form h
 cases A with
 | none =>
  rcases h.2 with ⟨hv, h0⟩ | ⟨g, cap, cur, hv, _⟩
  ·
   injection hv with _ hn hc
   subst hc
   obtain rfl : q = [] := List.length_eq_zero_iff.1 hn
   kernel_rfl
  ·
   cases hv
 | some A =>
  refine run_convert_bytes_back w 55 9 5 A c q underlying55 underlying5 underlying9 fun j hj => ?_
  rcases h.2 with ⟨hv, _⟩ | ⟨g, cap, cur, hv, _, hh, _, _, _, ht⟩
  ·
   cases hv
  ·
   injection hv with hv _ _
   injection hv with hv
   subst hv
   have e := octs_get q j hj
   rw [← ht, List.getElem?_take, if_pos (by omega)] at e
   obtain ⟨h1, h2⟩ := List.getElem?_eq_some_iff.1 e
   have h1' : j < cur.size := by simpa using h1
   have h3 : cur[j] = .int .u8 (q[j].toNat : Int) := by simpa using h2
   have hadd : (⟨g, 0, none⟩ : Addr).add j = ⟨g, j, none⟩ := by simp [Addr.add]; omega
   rw [hadd]
   simp [World.cell?, hh, h1', h3]
theorem exec_apH {P : Program} {w w' : World} {v v' x : Value} {t ty : TypeId} {o : Oper} {a : Act} (sl y : Operand) (ho : o.op = .call { callee := .builtin .append, args := #[sl, y], argTypes := #[t, t] }) (hty : o.type = ty) (hs : a.eval sl = v) (hy : a.eval y = x)
  (hr : (Builtin.append_ #[t, t] ty #[v, x]).run P w = .ok v' w') : (execOp a.eval o).run P w = .ok (.value v') w' := by
 subst hty
 unfold execOp
 simp only [ho, resolve, invoke, builtin, Sem.run_bind, Sem.run_pure, Result.andThen_ok, List.map_toArray, List.map_cons, List.map_nil, hs, hy, hr]
theorem shex_any (l : List UInt8) (hl : l.length ≤ 100000) (w : World) : Calls prog 34 #[.string (bs l)] w (RetB (.string (bs (hexT l))) w) := by
 by_cases h0 : l = []
 case pos =>
  subst h0
  go_enter func34, ntmps34
  go_wp2_with fail
  go_ret
  exact RetB.mk rfl (Below.refl _ _)
 obtain ⟨R, hR⟩ : ∃ R, Hid (hexL l = R) := ⟨_, Hh rfl⟩
 have e : hexT l = R := by unfold hexT; rw [if_neg h0, hR.out]
 rw [e]
 have h0' : (l == []) = false := by simpa using h0
 have h0'' : l.isEmpty = false := by simpa using h0
 obtain ⟨W1, hmk, ho1, hb1⟩ := mk0 (t := 55) (e := 5) underlying55 byteInfo w.heap.size (2 * l.length) (by omega) (by simp only [maxLen]; omega) w (Nat.le_refl _)
 clear e
 have hcast : ((2 * l.length : Nat) : Int) = 2 * (l.length : Int) := by omega
 rw [hcast] at hmk
 clear hcast
 go_enter func34, ntmps34
 go_wp2_with fail
 clear hmk
 go_loopw [3, 13] (fun v iv wr => ∃ k : Nat, k ≤ l.length ∧ iv = .int .i64 k ∧ wr.ownsRow w.heap.size 5 1 v (2 * k) (octs (hexL (l.take k))) ∧ Below w.heap.size w wr) (fun _ iv _ => l.length - (intOf iv).toNat)
 case atStart => exact ⟨0, Nat.zero_le _, rfl, ho1, hb1⟩
 clear ho1 hb1
 obtain ⟨k, hk, rfl, hb, hB⟩ := hrel
 obtain ⟨A', c', hv⟩ := own_form hb
 subst hv
 by_cases hlt : k < l.length
 case pos =>
  have hlt' : (k : Int) < l.length := by omega
  have HX : Hid (octs (hexL (l.take (k + 1))) = octs (hexL (l.take k)) ++ [.int .u8 ((hexD (l[k].toNat / 16)).toNat : Int), .int .u8 ((hexD (l[k].toNat % 16)).toNat : Int)]) := Hh (by rw [hexL_next hlt, octs_app]; rfl)
  have hk16 := l[k].toNat_lt
  obtain ⟨c, hc⟩ : ∃ c, Hid (l[k] = c) := ⟨_, Hh rfl⟩
  rw [hc.out] at HX hk16
  have hgc : ∀ h, l[k]'h = c := fun _ => hc.out
  obtain ⟨d, hd⟩ : ∃ d, Hid (c.toNat / 16 = d) := ⟨_, Hh rfl⟩
  obtain ⟨m, hm⟩ : ∃ m, Hid (c.toNat % 16 = m) := ⟨_, Hh rfl⟩
  have e1 : (c.toNat : Int) / 16 = d := by have := hd.out; omega
  have e2 : bits .and .u8 (c.toNat : Int) 15 = m := by rw [and_u8_15 c, hm.out]
  have ld : d < 16 := by have := hd.out; omega
  have lm : m < 16 := by have := hm.out; omega
  rw [hd.out, hm.out] at HX
  have ld' : (d : Int) < 16 := by omega
  have lm' : (m : Int) < 16 := by omega
  have f1 : ∀ h, ({ data := #[48, 49, 50, 51, 52, 53, 54, 55, 56, 57, 97, 98, 99, 100, 101, 102] } : ByteArray)[d]'h = hexD d := fun _ => hexD_get ld
  have f2 : ∀ h, ({ data := #[48, 49, 50, 51, 52, 53, 54, 55, 56, 57, 97, 98, 99, 100, 101, 102] } : ByteArray)[m]'h = hexD m := fun _ => hexD_get lm
  go_wp2_with fail
  refine wp_region_held_drew (S := fun V => Below w.heap.size w V) (by kernel_rfl) hB.drew (fun hS => ?_)
  refine held_seq hS 11 [0,1,2,3,4,5,6,7,8,9,10] rfl (by kernel_rfl) (fun _ _ _ _ _ h => h) rfl rfl ?_
  (refine ⟨_, (.slice A' (2 * k) c'), rfl, .inl ⟨rfl, fun V hV => rfl⟩, ?_⟩; simp only [Act.put, lsA, lsB, lsC])
  (refine ⟨_, (.string (bs l)), rfl, .inl ⟨rfl, fun V hV => rfl⟩, ?_⟩; simp only [Act.put, lsA, lsB, lsC])
  (refine ⟨_, (.int .i64 k), rfl, .inl ⟨rfl, fun V hV => rfl⟩, ?_⟩; simp only [Act.put, lsA, lsB, lsC])
  (refine ⟨_, (.int .u8 (c.toNat : Int)), rfl, .inl ⟨rfl, fun V hV => (by go_simp)⟩, ?_⟩; simp only [Act.put, lsA, lsB, lsC])
  (refine ⟨_, (.int .u8 (d : Int)), rfl, .inl ⟨rfl, fun V hV => (by go_simp)⟩, ?_⟩; simp only [Act.put, lsA, lsB, lsC])
  (refine ⟨_, (.int .u8 ((hexD d).toNat : Int)), rfl, .inl ⟨rfl, fun V hV => (by go_simp)⟩, ?_⟩; simp only [Act.put, lsA, lsB, lsC])
  (refine ⟨_, (.string (bs l)), rfl, .inl ⟨rfl, fun V hV => rfl⟩, ?_⟩; simp only [Act.put, lsA, lsB, lsC])
  (refine ⟨_, (.int .i64 k), rfl, .inl ⟨rfl, fun V hV => rfl⟩, ?_⟩; simp only [Act.put, lsA, lsB, lsC])
  (refine ⟨_, (.int .u8 (c.toNat : Int)), rfl, .inl ⟨rfl, fun V hV => (by go_simp)⟩, ?_⟩; simp only [Act.put, lsA, lsB, lsC])
  (refine ⟨_, (.int .u8 (m : Int)), rfl, .inl ⟨rfl, fun V hV => (by go_simp)⟩, ?_⟩; simp only [Act.put, lsA, lsB, lsC])
  (refine ⟨_, (.int .u8 ((hexD m).toNat : Int)), rfl, .inl ⟨rfl, fun V hV => (by go_simp)⟩, ?_⟩; simp only [Act.put, lsA, lsB, lsC])
  simp only [SeqC]
  have hbw := own_below hb (Below.refl wr.heap.size wr).drew
  obtain ⟨W, hW⟩ : ∃ W, Hid (wr.drew = W) := ⟨_, Hh rfl⟩
  rw [hW.out] at hS hbw ⊢
  have kn : Below W.heap.size W (W.alloc (.cells #[.int .u8 ((hexD d).toNat : Int), .int .u8 ((hexD m).toNat : Int)] 5)) := (Below.refl _ _).alloc (Nat.le_refl _) _
  have hbn := own_below hbw kn
  have hSn := below_then hS hS.size kn
  refine held_run 11 (some 27) (by kernel_rfl) rfl rfl (by kernel_rfl) (exec_bs2 (.tmp 21) (.tmp 26) rfl rfl rfl) hSn ?_
  simp only [Act.put, lsA, lsB, lsC]
  obtain ⟨i, hi, hz, hsize, hby⟩ := info_parts byteInfo
  obtain ⟨v', w4, hr, ho, hg, _⟩ := run_append_own_at (P := prog) (w := W.alloc (.cells #[.int .u8 ((hexD d).toNat : Int), .int .u8 ((hexD m).toNat : Int)] 5)) w.heap.size 55 55 5 i (.int .u8 0) 1 1 underlying55 hi hz hsize hby rfl (by decide) _ (2 * k) _ hbn ⟨W.heap.size, 0, none⟩ 2 2 [.int .u8 ((hexD d).toNat : Int), .int .u8 ((hexD m).toNat : Int)] rfl (new_two _ _ _ _ _ rfl) (two_cells rfl rfl) (by simp only [maxLen]; omega) (by omega) hSn.size
  rw [← HX.out] at ho
  have hS4 := below_own hSn hSn.size hbn hg
  refine held_run 12 (some 28) (by kernel_rfl) rfl rfl (by kernel_rfl) (v := v') (w' := w4) (exec_apH (.tmp 16) (.tmp 27) rfl rfl rfl rfl hr) hS4 ?_
  simp only [Act.put, lsA, lsB, lsC]
  clear hS kn hbn hSn hr hg hbw hW hB hb
  have hS := hS4
  refine held_seq hS 1 [13] rfl (by kernel_rfl) (fun _ _ _ _ _ h => h) rfl rfl ?_
  (refine ⟨_, v', rfl, .inl ⟨rfl, fun V hV => rfl⟩, ?_⟩; simp only [Act.put, lsA, lsB, lsC])
  simp only [SeqC]
  refine wpAnyH_done (by kernel_rfl) ?_ _
  clear e1 e2 f1 f2 hgc
  go_wp2_with fail
  go_roundw
  case rel => exact ⟨k + 1, by omega, by go_num, ho, hS4⟩
  case measure => simp [intOf]; omega
 obtain rfl : k = l.length := by omega
 have hlt' : ¬ (l.length : Int) < l.length := by omega
 rw [List.take_of_length_le (Nat.le_refl _), hR.out] at hb
 have hRl : R.length = 2 * l.length := by rw [← hR.out, hexL_len]
 rw [← hRl] at hb
 have hcv := own_text hb
 rw [hRl] at hcv
 clear hb hRl hR
 go_wp2_with fail
 go_ret
 exact RetB.mk rfl hB
theorem hexD_ext {i : Nat} (h : i < 16) : ByteArray.extract { data := #[48, 49, 50, 51, 52, 53, 54, 55, 56, 57, 97, 98, 99, 100, 101, 102] } i (i + 1) = bs [hexD i] := by
 match i, h with
 | 0, _ | 1, _ | 2, _ | 3, _ | 4, _ | 5, _ | 6, _ | 7, _ | 8, _ | 9, _ | 10, _ | 11, _ | 12, _ | 13, _ | 14, _ | 15, _ => rfl
 | j + 16, h => omega
theorem rhex44_any (l : List UInt8) (hl : l.length ≤ 100000) (w : World) : Calls prog 35 #[.string (bs l)] w (RetB (.string (bs (hexT l))) w) := by
 by_cases h0 : l = []
 case pos =>
  subst h0
  go_enter func35, ntmps35
  go_wp2_with fail
  go_ret
  exact RetB.mk rfl (Below.refl _ _)
 obtain ⟨R, hR⟩ : ∃ R, Hid (hexL l = R) := ⟨_, Hh rfl⟩
 have e : hexT l = R := by unfold hexT; rw [if_neg h0, hR.out]
 rw [e]
 have h0' : (l == []) = false := by simpa using h0
 have h0'' : l.isEmpty = false := by simpa using h0
 have HLN := Hh hexL_len
 clear e
 go_enter func35, ntmps35
 go_wp2_with fail
 go_loopw [3, 4] (fun v iv wr => ∃ k : Nat, k ≤ l.length ∧ iv = .int .i64 k ∧ v = .string (bs (hexL (l.take k))) ∧ Below w.heap.size w wr) (fun _ iv _ => l.length - (intOf iv).toNat)
 case atStart => exact ⟨0, Nat.zero_le _, rfl, rfl, Below.refl _ _⟩
 obtain ⟨k, hk, rfl, rfl, hB⟩ := hrel
 have hPl := HLN.out (l.take k)
 rw [List.length_take_of_le hk] at hPl
 by_cases hlt : k < l.length
 case pos =>
  have hlt' : (k : Int) < l.length := by omega
  have HX : Hid (hexL (l.take (k + 1)) = hexL (l.take k) ++ [hexD (l[k].toNat / 16)] ++ [hexD (l[k].toNat % 16)]) := Hh (by rw [hexL_next hlt, List.append_assoc]; rfl)
  have hk16 := l[k].toNat_lt
  obtain ⟨c, hc⟩ : ∃ c, Hid (l[k] = c) := ⟨_, Hh rfl⟩
  rw [hc.out] at HX hk16
  have hgc : ∀ h, l[k]'h = c := fun _ => hc.out
  obtain ⟨d, hd⟩ : ∃ d, Hid (c.toNat / 16 = d) := ⟨_, Hh rfl⟩
  obtain ⟨m, hm⟩ : ∃ m, Hid (c.toNat % 16 = m) := ⟨_, Hh rfl⟩
  have e1 : (c.toNat : Int) / 16 = d := by have := hd.out; omega
  have e2 : (c.toNat : Int) % 16 = m := by have := hm.out; omega
  have ld : d < 16 := by have := hd.out; omega
  have lm : m < 16 := by have := hm.out; omega
  rw [hd.out, hm.out] at HX
  have ld' : (d : Int) < 16 := by omega
  have lm' : (m : Int) < 16 := by omega
  have f1 := hexD_ext ld
  have f2 := hexD_ext lm
  generalize hexL (l.take k) = P at *
  generalize hexD d = xd at *
  generalize hexD m = xm at *
  clear HLN
  go_wp2_with fail
  refine wp_region_held_drew (S := fun V => Below w.heap.size w V) (by kernel_rfl) hB.drew (fun hS => ?_)
  refine held_seq hS 12 [0,1,2,3,4,5,6,7,8,9,10,11] rfl (by kernel_rfl) (fun _ _ _ _ _ h => h) rfl rfl ?_
  (refine ⟨_, (.string (bs l)), rfl, .inl ⟨rfl, fun V hV => rfl⟩, ?_⟩; simp only [Act.put, lsA, lsB, lsC])
  (refine ⟨_, (.int .i64 k), rfl, .inl ⟨rfl, fun V hV => rfl⟩, ?_⟩; simp only [Act.put, lsA, lsB, lsC])
  (refine ⟨_, (.int .u8 (c.toNat : Int)), rfl, .inl ⟨rfl, fun V hV => (by go_simp)⟩, ?_⟩; simp only [Act.put, lsA, lsB, lsC])
  (refine ⟨_, (.int .i64 (c.toNat : Int)), rfl, .inl ⟨rfl, fun V hV => (by go_simp; exact IntWalk.i64_in _ (by omega))⟩, ?_⟩; simp only [Act.put, lsA, lsB, lsC])
  (refine ⟨_, (.int .i64 (d : Int)), rfl, .inl ⟨rfl, fun V hV => (by go_simp; exact IntWalk.i64_in _ (by omega))⟩, ?_⟩; simp only [Act.put, lsA, lsB, lsC])
  (refine ⟨_, (.string (bs l)), rfl, .inl ⟨rfl, fun V hV => rfl⟩, ?_⟩; simp only [Act.put, lsA, lsB, lsC])
  (refine ⟨_, (.int .i64 k), rfl, .inl ⟨rfl, fun V hV => rfl⟩, ?_⟩; simp only [Act.put, lsA, lsB, lsC])
  (refine ⟨_, (.int .u8 (c.toNat : Int)), rfl, .inl ⟨rfl, fun V hV => (by go_simp)⟩, ?_⟩; simp only [Act.put, lsA, lsB, lsC])
  (refine ⟨_, (.int .i64 (c.toNat : Int)), rfl, .inl ⟨rfl, fun V hV => (by go_simp; exact IntWalk.i64_in _ (by omega))⟩, ?_⟩; simp only [Act.put, lsA, lsB, lsC])
  (refine ⟨_, (.int .i64 (m : Int)), rfl, .inl ⟨rfl, fun V hV => (by go_simp; rw [Int.tmod_eq_emod_of_nonneg (by omega)]; exact e2)⟩, ?_⟩; simp only [Act.put, lsA, lsB, lsC])
  (refine ⟨_, (.int .i64 (d : Int)), rfl, .inl ⟨rfl, fun V hV => rfl⟩, ?_⟩; simp only [Act.put, lsA, lsB, lsC])
  (refine ⟨_, (.int .i64 (m : Int)), rfl, .inl ⟨rfl, fun V hV => rfl⟩, ?_⟩; simp only [Act.put, lsA, lsB, lsC])
  simp only [SeqC]
  refine wpAnyH_done (by kernel_rfl) ?_ _
  go_wp2_with fail
  refine wp_region_held_drew (S := fun V => Below w.heap.size w V) (by kernel_rfl) hS.drew (fun hS => ?_)
  refine held_seq hS 12 [0,1,2,3,4,5,6,7,8,9,10,11] rfl (by kernel_rfl) (fun _ _ _ _ _ h => h) rfl rfl ?_
  (refine ⟨_, (.string (bs P)), rfl, .inl ⟨rfl, fun V hV => rfl⟩, ?_⟩; simp only [Act.put, lsA, lsB, lsC])
  (refine ⟨_, (.int .i64 d), rfl, .inl ⟨rfl, fun V hV => rfl⟩, ?_⟩; simp only [Act.put, lsA, lsB, lsC])
  (refine ⟨_, (.int .i64 d), rfl, .inl ⟨rfl, fun V hV => rfl⟩, ?_⟩; simp only [Act.put, lsA, lsB, lsC])
  (refine ⟨_, (.int .i64 ((d : Int) + 1)), rfl, .inl ⟨rfl, fun V hV => (by go_simp; exact IntWalk.i64_in _ (by omega))⟩, ?_⟩; simp only [Act.put, lsA, lsB, lsC])
  (refine ⟨_, (.string (bs [xd])), rfl, .inl ⟨rfl, fun V hV => (by go_simp; rw [if_pos ⟨by omega, by omega⟩, if_pos (by omega)])⟩, ?_⟩; simp only [Act.put, lsA, lsB, lsC])
  (refine ⟨_, (.string (bs (P ++ [xd]))), rfl, .inl ⟨rfl, fun V hV => (by go_simp; omega)⟩, ?_⟩; simp only [Act.put, lsA, lsB, lsC])
  (refine ⟨_, (.int .i64 m), rfl, .inl ⟨rfl, fun V hV => rfl⟩, ?_⟩; simp only [Act.put, lsA, lsB, lsC])
  (refine ⟨_, (.int .i64 m), rfl, .inl ⟨rfl, fun V hV => rfl⟩, ?_⟩; simp only [Act.put, lsA, lsB, lsC])
  (refine ⟨_, (.int .i64 ((m : Int) + 1)), rfl, .inl ⟨rfl, fun V hV => (by go_simp; exact IntWalk.i64_in _ (by omega))⟩, ?_⟩; simp only [Act.put, lsA, lsB, lsC])
  (refine ⟨_, (.string (bs [xm])), rfl, .inl ⟨rfl, fun V hV => (by go_simp; rw [if_pos ⟨by omega, by omega⟩, if_pos (by omega)])⟩, ?_⟩; simp only [Act.put, lsA, lsB, lsC])
  (refine ⟨_, (.string (bs (P ++ [xd] ++ [xm]))), rfl, .inl ⟨rfl, fun V hV => (by go_simp; omega)⟩, ?_⟩; simp only [Act.put, lsA, lsB, lsC])
  (refine ⟨_, (.string (bs (P ++ [xd] ++ [xm]))), rfl, .inl ⟨rfl, fun V hV => rfl⟩, ?_⟩; simp only [Act.put, lsA, lsB, lsC])
  simp only [SeqC]
  refine wpAnyH_done (by kernel_rfl) ?_ _
  clear f1 f2 e1 e2 hgc
  go_wp2_with fail
  go_roundw
  case rel => exact ⟨k + 1, by omega, by go_num, by rw [HX.out], hS⟩
  case measure => simp [intOf]; omega
 obtain rfl : k = l.length := by omega
 have hlt' : ¬ (l.length : Int) < l.length := by omega
 rw [List.take_of_length_le (Nat.le_refl _), hR.out]
 clear hR HLN hPl
 go_wp2_with fail
 go_ret
 exact RetB.mk rfl hB
end Go.Proofs.YtkcbffldncmbcaaGreatDoor
