/-
  Layer 21: the config that nothing is told of, held.
-/
import Derived.Test.YteimenplbanooaaGreatDoorRAYq
namespace Go.Proofs.YteimenplbanooaaGreatDoor
open _root_.Go.Proofs.Tryz
open Go.RowKit
set_option maxRecDepth 100000
set_option linter.unusedVariables false
set_option linter.unusedSimpArgs false
def rs43 : Rs := ⟨[], [], [], 0, 0, 0, false, false, false, false⟩
def cf43 : List Value := rsC nilS nilS nilS rs43 ++ [nilS, nilS, nilS]
def HZ (CS : List Value) (w : World) : Prop := ∃ A1 c1 A2 c2 A3 c3 Ah ch As cS Av cv, CS = rsC (.slice A1 1 c1) (.slice A2 0 c2) (.slice A3 0 c3) (heldR rs43) ++ [.slice Ah 0 ch, .slice As 2 cS, .slice Av 0 cv] ∧ AdsO w 0 (.slice A1 1 c1) (heldR rs43).sv ∧ LOwn w 0 147 5 SrcI (.slice As 2 cS) (heldS [])
section
variable {CS : List Value} {w w' : World}
theorem HZ.below (h : HZ CS w) (k : Below w.heap.size w w') : HZ CS w' := by
 obtain ⟨A1, c1, A2, c2, A3, c3, Ah, ch, As, cS, Av, cv, e, h1, h2⟩ := h
 exact ⟨A1, c1, A2, c2, A3, c3, Ah, ch, As, cS, Av, cv, e, LOwn.below (R' := AdI) h1 k (fun _ _ x => x), LOwn.below (R' := SrcI) h2 k (fun _ _ x => x)⟩
theorem HZ.blk (h : HZ CS w) {g : Nat} {t : TypeId} {cs : List Value} (hg : w.grownBy w' (some g)) (hb : Blk w g t cs) (h1 : t ≠ 24) (h2 : t ≠ 147) : HZ CS w' := by
 obtain ⟨A1, c1, A2, c2, A3, c3, Ah, ch, As, cS, Av, cv, e, k1, k2⟩ := h
 exact ⟨A1, c1, A2, c2, A3, c3, Ah, ch, As, cS, Av, cv, e, LOwn.blk k1 hg hb h1, LOwn.blk k2 hg hb h2⟩
theorem HZ.len (h : HZ CS w) : CS.length = 13 := by
 obtain ⟨A1, c1, A2, c2, A3, c3, Ah, ch, As, cS, Av, cv, rfl, _⟩ := h
 rfl
theorem HZ.one (h : HZ CS w) : ∀ u ∈ CS, u.oneCell' = true := by
 obtain ⟨A1, c1, A2, c2, A3, c3, Ah, ch, As, cS, Av, cv, rfl, _⟩ := h
 intro u hu
 simp only [rsC, List.cons_append, List.nil_append, List.mem_cons, List.not_mem_nil, or_false] at hu
 rcases hu with rfl | rfl | rfl | rfl | rfl | rfl | rfl | rfl | rfl | rfl | rfl | rfl | rfl <;> rfl
theorem HZ.at12 (h : HZ CS w) : ∃ A c, CS[12]? = some (.slice A 0 c) := by
 obtain ⟨A1, c1, A2, c2, A3, c3, Ah, ch, As, cS, Av, cv, rfl, _⟩ := h
 exact ⟨_, _, rfl⟩
theorem HZ.at2 (h : HZ CS w) : ∃ A c, CS[2]? = some (.slice A 0 c) := by
 obtain ⟨A1, c1, A2, c2, A3, c3, Ah, ch, As, cS, Av, cv, rfl, _⟩ := h
 exact ⟨_, _, rfl⟩
end
def HZRet (w : World) (e : Ending) (w' : World) : Prop := ∃ CS, e = .returned (.agg CS.toArray) ∧ HZ CS w' ∧ Below w.heap.size w w'
theorem heldZ_any (w : World) : Calls prog 19 #[.agg cf43.toArray] w (HZRet w) := by
 have h : RsIn w w (rsC nilS nilS nilS rs43) rs43 := ⟨none, 0, none, 0, none, 0, rfl, fun h => absurd h (by decide), fun h => absurd h (by decide), fun h => absurd h (by decide), by decide, by decide, by decide⟩
 refine (heldS_any w _ rs43 none none none 0 0 0 [] [] [] w h (Below.refl _ _) (fun c => absurd c (Nat.lt_irrefl 0)) (Nat.zero_le _) (fun h hh => by cases hh) (fun c => absurd c (Nat.lt_irrefl 0)) (Nat.zero_le _) (fun c => absurd c (Nat.lt_irrefl 0)) (Nat.zero_le _)).mono ?_
 rintro e w' ⟨cs, v1, v2, v3, rfl, ⟨x1, x2, x3, rfl, hA, hN, hP⟩, hH, hS, hV, b⟩
 obtain ⟨A1, c1, rfl⟩ := hA.form
 obtain ⟨A2, c2, rfl⟩ := hN.form
 obtain ⟨A3, c3, rfl⟩ := hP.form
 obtain ⟨Ah, ch, rfl⟩ := hH.form
 obtain ⟨As, cS, rfl⟩ := hS.form
 obtain ⟨Av, cv, rfl⟩ := hV.form
 exact ⟨_, rfl, ⟨A1, c1, A2, c2, A3, c3, Ah, ch, As, cS, Av, cv, rfl, hA, hS⟩, b⟩
def H3 (fl fam st : Int) : Prop := (fl = 0 ∧ fam = 0 ∧ st = 0) ∨ (fl = 0 ∧ fam = 4 ∧ st = 0) ∨ (fl = 12 ∧ fam = 0 ∧ st = 2)
def hiC (fl fam st : Int) : Value := .agg #[.int .i64 fl, .int .i64 fam, .int .i64 st]
theorem hchk_any (fl fam st : Int) (h : H3 fl fam st) (node serv : List UInt8) (hn : node.isEmpty = false) (w : World) : Calls prog 30 #[hiC fl fam st, .string (bs node), .string (bs serv)] w (RetB (.int .i64 0) w) := by
 rcases h with ⟨rfl, rfl, rfl⟩ | ⟨rfl, rfl, rfl⟩ | ⟨rfl, rfl, rfl⟩
 all_goals
  unfold hiC
  go_enter func30, ntmps30
  go_wp2_with fail
  go_ret
  exact RetB.mk rfl ((Below.refl _ _).alloc (Nat.le_refl _) _)
theorem hasks_any (fl fam st : Int) (h : H3 fl fam st) (nv : Value) (cs : List Value) (hnv : nv = .agg cs.toArray) (hl : cs.length = 3) (w : World) : Calls prog 36 #[nv, hiC fl fam st] w (RetB (.tuple #[.int .i64 fam, .bool true]) w) := by
 match cs, hl with
 | [c0, c1, c2], _ =>
  subst hnv
  rcases h with ⟨rfl, rfl, rfl⟩ | ⟨rfl, rfl, rfl⟩ | ⟨rfl, rfl, rfl⟩
  all_goals
   unfold hiC
   go_enter func36, ntmps36
   go_wp2_with fail
   go_ret2
   exact RetB.mk rfl (((Below.refl _ _).alloc (Nat.le_refl _) _).alloc (by simp) _)
open Go.RowKit Go.Shelf
theorem natsV_one (gs : List Nat) : ∀ v ∈ natsV gs, v.oneCell' = true := by
 intro v hv
 obtain ⟨i, _, rfl⟩ := List.mem_map.1 hv
 rfl
theorem intSize1 : (prog.info? 3).map (·.size) = some 1 := by kernel_rfl
theorem wpList_cpyI (w : World) {ops : Array Oper} {rest : List Oper} {o : Oper} {a : Act} {Q : Exit → Act → World → Prop} (hgd : o.guard = none) (d x : Operand)
  (ho : o.op = .call { callee := .builtin .copy, args := #[d, x], argTypes := #[59, 59] }) (g off len cap : Nat) (hd : a.eval d = .slice (some ⟨g, off, none⟩) len cap) (v : Value) (gs : List Nat) (B : Nat) (hx : a.eval x = v) (hv : w.ownsRow B 3 1 v gs.length (natsV gs))
  {t : TypeId} {L : List Value} (hb : Blk w g t L) (hle : gs.length ≤ len) (hfit : off + gs.length ≤ L.length)
  (h : ∀ w', Blk w' g t (L.take off ++ natsV gs ++ L.drop (off + gs.length)) → w.grownBy w' (some g) → wpList prog ops Q rest (a.put o.dst (.int .i64 gs.length)) w') : wpList prog ops Q (o :: rest) a w := by
 refine wpList_plain hgd fun K hK => ?_
 obtain ⟨w', hr, h1, h2⟩ : ∃ w', (Builtin.copy_ #[59, 59] o.type #[.slice (some ⟨g, off, none⟩) len cap, v]).run prog w = .ok (.int .i64 gs.length) w' ∧ Blk w' g t (L.take off ++ natsV gs ++ L.drop (off + gs.length)) ∧ w.grownBy w' (some g) := by
  have hv0 := hv
  rcases hv.2 with ⟨rfl, hn⟩ | ⟨gv, cv, cur, rfl, _⟩
  ·
   have hg0 : gs = [] := List.length_eq_zero_iff.1 hn
   subst hg0
   have hr := run_copy_nil (P := prog) w 59 59 o.type 3 ⟨g, off, none⟩ len cap underlying59 (by rw [intSize1]; rfl)
   refine ⟨w, hr, ?_, World.grownBy.refl _ _⟩
   simpa [natsV] using hb
  ·
   have hr := run_copy_row (P := prog) w 59 59 o.type 3 g off len cap ⟨gv, 0, none⟩ gs.length cv L.toArray t (natsV gs) underlying59 intSize1 hb (by rw [natsV_len]; exact (Nat.min_eq_left hle).symm) (World.ownsRow.cells hv0 rfl) (by rw [natsV_len]; simpa using hfit) (natsV_one gs)
   rw [natsV_len] at hr
   exact ⟨_, hr, setRow_blk hb _, grown_setRow (World.grownBy.refl _ _) _⟩
 unfold Oper.wp execOp
 simp only [ho, resolve, invoke, builtin, Sem.run_bind, Sem.run_pure, Result.andThen_ok, List.map_toArray, List.map_cons, List.map_nil, hd, hx, hr]
 exact hK _ _ (h _ h1 h2)
def Mx (w : World) : Prop := ∃ m, w.cell? ⟨1, 0, none⟩ = some (.int .i64 m)
theorem Mx.below {w w' : World} (h : Mx w) (hb : Below w.heap.size w w') : Mx w' := by
 obtain ⟨m, hm⟩ := h
 exact ⟨m, (hb.cell (World.block_lt_of_cell? _ _ hm)).trans hm⟩
theorem ixDD_any (s : List UInt8) (hs : s.length < 4294967281) (w : World) (hM : Mx w) : Calls prog 229 #[.string (bs s), .string (bs [58, 58])] w (Ret (.int .i64 (Lib.index s [58, 58])) w) := by
 obtain ⟨m, hm⟩ := hM
 refine (Any.strings_Index { Tryz.lays143 with } (bs s) (bs [58, 58]) m w (by rw [bs_size]; exact hs) hm).mono ?_
 rintro e w' ⟨rfl, rfl⟩
 exact ⟨rfl, rfl⟩
def WhRet (gs : List Nat) (w : World) (e : Ending) (w' : World) : Prop := e = .returned (.tuple #[.agg (natsV gs).toArray, .bool true]) ∧ Below w.heap.size w w'
def zer8 : List Value := natsV [0, 0, 0, 0, 0, 0, 0, 0]
theorem i8Inf6 {gs : List Nat} (h : gs.length = 8) : (prog.info? 269).map (·.size) = some (natsV gs).length := by rw [natsV_len, h]; exact i8Info
set_option maxHeartbeats 2000000 in
theorem wholeAll_any (gs : List Nat) (hg : ∀ n ∈ gs, n < 65536) (h8 : gs.length = 8) (w : World) (hM : Mx w) : Calls prog 187 #[.string (bs (joinC 58 (gs.map hexN)))] w (WhRet gs w) := by
 have B2 := Blk.new w 269 zer8
 have B2' := B2.alloc (.cells zer8.toArray 269)
 have B4 := Blk.new' (w.alloc (.cells zer8.toArray 269)) 269 zer8 (w.heap.size + 1) (by simp)
 have HB : Below w.heap.size w ((w.alloc (.cells zer8.toArray 269)).alloc (.cells zer8.toArray 269)) := ((Below.refl _ _).alloc (Nat.le_refl _) _).alloc (by simp) _
 have hlen : (joinC 58 (gs.map hexN)).length < 4294967281 := by
  have := hexs_len (gs.map hexN) (fun l hl => by obtain ⟨n, _, rfl⟩ := List.mem_map.1 hl; exact hexN_len n)
  rw [List.length_map] at this
  omega
 have IX := Hh (fun V (hV : Below w.heap.size w V) => ixDD_any (joinC 58 (gs.map hexN)) hlen V (hM.below hV))
 rw [(ix_join (gs.map hexN) (hex_pcs gs)).1] at IX
 have SV := Hh (fun V => several_any gs hg (by omega) true V)
 have SA := fun V => sl8_a (w.heap.size + 1) V
 have hil := i8Inf6 h8
 have hnl := natsV_len gs
 rw [h8] at hnl
 generalize joinC 58 (gs.map hexN) = T at *
 clear hM hg hlen
 go_enter func187, ntmps187
 go_wp2_with fail
 refine (IX.out _ HB).mono ?_
 rintro _ _ ⟨rfl, rfl⟩
 clear IX
 go_wp2_with fail
 refine (SV.out _).mono ?_
 rintro _ w2 ⟨v, rfl, ho, b2⟩
 have X2 := B2'.below b2 B2'.lt
 have X4 := B4.below b2 B4.lt
 have S2 := below_then HB HB.size b2
 obtain ⟨A, c, rfl⟩ : ∃ A c, v = .slice A 8 c := by
  rcases ho.2 with ⟨e, e2⟩ | ⟨g, cap, cur, e, _⟩
  ·
   omega
  ·
   exact ⟨_, _, by rw [e, h8]⟩
 have HO := Hh ho
 clear B2 B2' B4 HB SV b2 ho
 go_wp2_with (refine at_op (.call { callee := .builtin .copy, args := #[.tmp 28, .tmp 29], argTypes := #[59, 59] }) rfl ?_; go_must (refine wpList_cpyI _ rfl (.tmp 28) (.tmp 29) rfl (w.heap.size + 1) 0 8 8 rfl _ gs _ rfl HO.out X4 (by omega) (by rw [h8]; exact Nat.le_refl 8) ?_))
 intro w3 B3 g3
 have X3 : Blk w3 (w.heap.size + 1) 269 (natsV gs) := by simpa [zer8, natsV] using B3
 have Y3 := X2.grown g3 (by simp)
 have S3 := below_grown S2 g3 S2.size (by omega)
 clear B3 g3 X4 X2 S2 HO
 go_wp2_with (first
  | (refine at_op (.load 269 (.tmp 4)) rfl ?_; go_must (refine wpList_ldB rfl _ _ rfl (w.heap.size + 1) 0 rfl X3 8 (by omega) _ underlying269 rfl i8Info (natsV gs) (tk0 (by omega)) ?_))
  | (refine at_op (.store 269 (.tmp 2) (.tmp 31)) rfl ?_; go_must (refine wpList_stB rfl _ _ _ rfl w.heap.size 0 rfl (natsV gs) rfl Y3 (by rw [hnl]; exact Nat.le_refl 8) hil (natsV_one gs) ?_)))
 intro w4 B4 g4 sw
 clear sw
 have Y4 : Blk w4 w.heap.size 269 (natsV gs) := by simpa [zer8, natsV] using B4
 have S4 := below_grown S3 g4 S3.size (Nat.le_refl _)
 clear B4 g4 X3 Y3 S3
 go_wp2_with fail
 refine ret_cell_tmp rfl w.heap.size rfl Y4 _ underlying269 rfl hil rfl _ rfl ?_
 exact ⟨rfl, S4⟩
def midG (g1 g2 : List Nat) : List Nat := g1 ++ List.replicate (8 - g1.length - g2.length) 0 ++ g2
theorem midG_len {g1 g2 : List Nat} (h : g1.length + g2.length ≤ 8) : (midG g1 g2).length = 8 := by simp [midG]; omega
theorem zer8_drop (n : Nat) : zer8.drop n = natsV (List.replicate (8 - n) 0) := by
 have : zer8 = natsV (List.replicate 8 0) := rfl
 rw [this, natsV, ← List.map_drop, List.drop_replicate]
 rfl
theorem natsV_app (a b : List Nat) : natsV (a ++ b) = natsV a ++ natsV b := by simp [natsV]
theorem mid_cells {g1 g2 : List Nat} (h : g1.length + g2.length ≤ 7) : ((natsV g1 ++ zer8.drop g1.length).take (if 8 = 8 - g2.length then 0 else 8 - g2.length)) ++ natsV g2 ++ (natsV g1 ++ zer8.drop g1.length).drop ((if 8 = 8 - g2.length then 0 else 8 - g2.length) + g2.length) = natsV (midG g1 g2) := by
 rw [zer8_drop, ← natsV_app]
 by_cases h0 : g2 = []
 ·
  subst h0
  simp [midG, natsV]
 ·
  have hp : 0 < g2.length := List.length_pos_iff.2 h0
  rw [if_neg (by omega), show 8 - g2.length + g2.length = 8 by omega]
  have hl : (natsV (g1 ++ List.replicate (8 - g1.length) 0)).length = 8 := by rw [natsV_len]; simp; omega
  rw [List.drop_of_length_le (by omega), List.append_nil]
  unfold midG
  rw [natsV_app (g1 ++ List.replicate (8 - g1.length - g2.length) 0) g2]
  congr 1
  unfold natsV
  rw [← List.map_take, List.take_append, List.take_of_length_le (by omega), List.take_replicate]
  congr 3
  omega
set_option maxHeartbeats 2000000 in
theorem wholeMid_any (g1 g2 : List Nat) (JB : List UInt8) (hg : ∀ n ∈ g1, n < 65536) (h7 : g1.length + g2.length ≤ 7) (hJ : JB.length ≤ 1000000) (w : World) (hM : Mx w) (SV2' : ∀ V, Below w.heap.size w V → Calls prog 230 #[.string (bs JB), .bool true] V (SvRet g2 V)) : Calls prog 187 #[.string (bs (joinC 58 (g1.map hexN) ++ 58 :: 58 :: JB))] w (WhRet (midG g1 g2) w) := by
 have B2 := Blk.new w 269 zer8
 have B2' := B2.alloc (.cells zer8.toArray 269)
 have B4 := Blk.new' (w.alloc (.cells zer8.toArray 269)) 269 zer8 (w.heap.size + 1) (by simp)
 have HB : Below w.heap.size w ((w.alloc (.cells zer8.toArray 269)).alloc (.cells zer8.toArray 269)) := ((Below.refl _ _).alloc (Nat.le_refl _) _).alloc (by simp) _
 have hl1 := hexs_len (g1.map hexN) (fun l hl => by obtain ⟨n, _, rfl⟩ := List.mem_map.1 hl; exact hexN_len n)
 rw [List.length_map] at hl1
 have SV2 := Hh SV2'
 have IX := Hh (fun V (hV : Below w.heap.size w V) => ixDD_any (joinC 58 (g1.map hexN) ++ 58 :: 58 :: JB) (by simp; omega) V (hM.below hV))
 rw [(ix_join (g1.map hexN) (hex_pcs g1)).2 JB] at IX
 have SV1 := Hh (fun V => several_any g1 hg (by omega) false V)
 have SA := fun V => sl8_a (w.heap.size + 1) V
 have SL := fun V => sl8_l (w.heap.size + 1) (8 - g2.length) (by omega) V
 rw [show ((8 - g2.length : Nat) : Int) = 8 - (g2.length : Int) by omega, show 8 - (8 - g2.length) = g2.length by omega] at SL
 have hcL := mid_cells h7
 obtain ⟨of, hof⟩ : ∃ of, (if 8 = 8 - g2.length then 0 else 8 - g2.length) = of := ⟨_, rfl⟩
 have hof8 : of + g2.length ≤ 8 := by rw [← hof]; split <;> omega
 rw [hof] at hcL SL
 clear hof
 have hil := i8Inf6 (midG_len (g1 := g1) (g2 := g2) (by omega))
 have hnl := natsV_len (midG g1 g2)
 rw [midG_len (by omega)] at hnl
 have ht : (joinC 58 (g1.map hexN) ++ 58 :: 58 :: JB).take (joinC 58 (g1.map hexN)).length = joinC 58 (g1.map hexN) := by simp
 have hd : (joinC 58 (g1.map hexN) ++ 58 :: 58 :: JB).drop ((joinC 58 (g1.map hexN)).length + 2) = JB := by simp [List.drop_append]
 have hsl : ((joinC 58 (g1.map hexN)).length : Int) ≤ ((joinC 58 (g1.map hexN) ++ 58 :: 58 :: JB).length : Int) := by simp; omega
 have hsl2 : ((joinC 58 (g1.map hexN)).length : Int) + 2 ≤ ((joinC 58 (g1.map hexN) ++ 58 :: 58 :: JB).length : Int) := by simp; omega
 have hk40 : ((joinC 58 (g1.map hexN)).length : Int) ≤ 40 := by omega
 generalize joinC 58 (g1.map hexN) ++ 58 :: 58 :: JB = T at *
 generalize hk : (joinC 58 (g1.map hexN)).length = k at *
 generalize joinC 58 (g1.map hexN) = JA at *
 obtain ⟨R, hR⟩ : ∃ R, Hid (natsV (midG g1 g2) = R) := ⟨_, Hh rfl⟩
 have hR1 : ∀ v ∈ R, v.oneCell' = true := by rw [← hR.out]; exact natsV_one _
 rw [hR.out] at hcL hil hnl
 clear hM hg hl1 hk SV2'
 go_enter func187, ntmps187
 go_wp2_with fail
 refine (IX.out _ HB).mono ?_
 rintro _ _ ⟨rfl, rfl⟩
 clear IX
 go_wp2_with fail
 refine (SV1.out _).mono ?_
 rintro _ w2 ⟨v1, rfl, ho1, b2⟩
 have X2 := B2'.below b2 B2'.lt
 have X4 := B4.below b2 B4.lt
 have S2 := below_then HB HB.size b2
 obtain ⟨A1, c1, rfl⟩ : ∃ A c, v1 = .slice A g1.length c := by
  rcases ho1.2 with ⟨e, e2⟩ | ⟨g, cap, cur, e, _⟩
  ·
   exact ⟨none, 0, by rw [e, e2]⟩
  ·
   exact ⟨_, _, e⟩
 have HO1 := Hh ho1
 have hs2 : w.heap.size + 1 + 1 ≤ w2.heap.size := by have := b2.size; simpa using this
 clear B2 B2' B4 HB SV1 b2 ho1
 go_wp2_with fail
 refine (SV2.out _ S2).mono ?_
 rintro _ w3 ⟨v2, rfl, ho2, b3⟩
 have X2' := X2.below b3 X2.lt
 have X4' := X4.below b3 X4.lt
 have S3 := below_then S2 S2.size b3
 obtain ⟨A2, c2, rfl⟩ : ∃ A c, v2 = .slice A g2.length c := by
  rcases ho2.2 with ⟨e, e2⟩ | ⟨g, cap, cur, e, _⟩
  ·
   exact ⟨none, 0, by rw [e, e2]⟩
  ·
   exact ⟨_, _, e⟩
 have HO1' := Hh (own_below HO1.out b3)
 have HO2 := Hh ho2
 clear X2 X4 S2 SV2 b3 ho2 HO1
 have h7' : (g1.length : Int) + g2.length ≤ 7 := by omega
 go_wp2_with (first
  | (refine at_op (.call { callee := .builtin .copy, args := #[.tmp 61, .tmp 62], argTypes := #[59, 59] }) rfl ?_; go_must (refine wpList_cpyI _ rfl (.tmp 61) (.tmp 62) rfl (w.heap.size + 1) 0 8 8 rfl _ g1 _ rfl HO1'.out X4' (by omega) (by show 0 + g1.length ≤ 8; omega) ?_)))
 intro w4 B4 g4
 have hne : (Value.slice A2 g2.length c2).ownBlock ≠ some (w.heap.size + 1) := fun e => by have := (HO2.out.lt _ e).1; omega
 have HO2' := Hh (World.ownsRow.kept HO2.out g4 (.inr hne))
 have X4 : Blk w4 (w.heap.size + 1) 269 (natsV g1 ++ zer8.drop g1.length) := by simpa using B4
 have hl4 : (natsV g1 ++ zer8.drop g1.length).length = 8 := by rw [List.length_append, natsV_len, List.length_drop]; show g1.length + (8 - g1.length) = 8; omega
 have Y4 := X2'.grown g4 (by simp)
 have S4 := below_grown S3 g4 S3.size (by omega)
 clear B4 g4 X2' X4' S3 HO1' HO2 hne
 go_wp2_with (refine at_op (.call { callee := .builtin .copy, args := #[.tmp 67, .tmp 68], argTypes := #[59, 59] }) rfl ?_; go_must (refine wpList_cpyI _ rfl (.tmp 67) (.tmp 68) rfl (w.heap.size + 1) of g2.length g2.length rfl _ g2 _ rfl HO2'.out X4 (Nat.le_refl _) (by rw [hl4]; exact hof8) ?_))
 intro w5 B5 g5
 have Y5 := Y4.grown g5 (by simp)
 have S5 := below_grown S4 g5 S4.size (by omega)
 clear g5 X4 Y4 S4 HO2' hcL hl4
 go_wp2_with (first
  | (refine at_op (.load 269 (.tmp 4)) rfl ?_; go_must (refine wpList_ldB rfl _ _ rfl (w.heap.size + 1) 0 rfl B5 8 (by omega) _ underlying269 rfl i8Info R (tk0 (by omega)) ?_))
  | (refine at_op (.store 269 (.tmp 2) (.tmp 70)) rfl ?_; go_must (refine wpList_stB rfl _ _ _ rfl w.heap.size 0 rfl R rfl Y5 (by rw [hnl]; exact Nat.le_refl 8) hil hR1 ?_)))
 intro w6 B6 g6 sw
 clear sw
 have Y6 : Blk w6 w.heap.size 269 R := by
  have h0 : zer8.drop 8 = [] := rfl
  have := B6
  simpa [h0, hnl] using this
 have S6 := below_grown S5 g6 S5.size (Nat.le_refl _)
 clear B6 g6 B5 Y5 S5
 go_wp2_with fail
 refine ret_cell_tmp rfl w.heap.size rfl Y6 _ underlying269 rfl hil rfl _ rfl ?_
 exact ⟨by rw [hR.out]; rfl, S6⟩
theorem joinHex_len (gs : List Nat) (h : gs.length ≤ 8) : (joinC 58 (gs.map hexN)).length ≤ 40 := by
 have := hexs_len (gs.map hexN) (fun l hl => by obtain ⟨n, _, rfl⟩ := List.mem_map.1 hl; exact hexN_len n)
 rw [List.length_map] at this
 omega
theorem quadT_short (a b c d : Nat) (ha : a < 256) (hb : b < 256) (hc : c < 256) (hd : d < 256) : (quadT a b c d).length ≤ 87 := by
 have la := itoa_len (a : Int) (by omega) (by omega)
 have lb := itoa_len (b : Int) (by omega) (by omega)
 have lc := itoa_len (c : Int) (by omega) (by omega)
 have ld := itoa_len (d : Int) (by omega) (by omega)
 unfold quadT
 simp only [List.length_append, List.length_cons]
 omega
theorem wholeBare_any (ip : List UInt8) (w : World) (hT : Tb w) (hM : Mx w) : Calls prog 187 #[.string (bs (bareT ip))] w (WhRet (natsG ip) w) := by
 by_cases hm : mapG ip = true
 ·
  have he : bareT ip = joinC 58 (([] : List Nat).map hexN) ++ 58 :: 58 :: (hexN 65535 ++ 58 :: quadT (ip.getD 12 0).toNat (ip.getD 13 0).toNat (ip.getD 14 0).toNat (ip.getD 15 0).toNat) := by
   rw [bareT_map hm, show hexN 65535 = [102, 102, 102, 102] from by decide]
   rfl
  have hmid : midG [] [65535, 256 * (ip.getD 12 0).toNat + (ip.getD 13 0).toNat, 256 * (ip.getD 14 0).toNat + (ip.getD 15 0).toNat] = natsG ip := by rw [map_groups hm]; rfl
  rw [he, ← hmid]
  refine wholeMid_any [] _ _ (fun n hn => by cases hn) (by simp) ?_ w hM (fun V hV => several4_any _ _ _ _ V (hT.below hV))
  have := quadT_short (ip.getD 12 0).toNat (ip.getD 13 0).toNat (ip.getD 14 0).toNat (ip.getD 15 0).toNat (UInt8.toNat_lt _) (UInt8.toNat_lt _) (UInt8.toNat_lt _) (UInt8.toNat_lt _)
  have h4 := hexN_len 65535
  rw [List.length_append, List.length_cons]
  omega
 ·
  by_cases h2 : (rowP (zerosG ip)).2 < 2
  ·
   rw [bareT_all hm h2, ← natsG_hex]
   exact wholeAll_any (natsG ip) (natsG_lt ip) (natsG_len ip) w hM
  ·
   have hok := rowP_zeros ip
   have he := bareT_two hm h2
   rw [← natsG_hex, ← List.map_take, ← List.map_drop, List.append_assoc] at he
   have hmid : midG ((natsG ip).take (rowP (zerosG ip)).1) ((natsG ip).drop ((rowP (zerosG ip)).1 + (rowP (zerosG ip)).2)) = natsG ip := by
    conv => rhs; rw [row_groups ip]
    unfold midG
    congr 3
    rw [List.length_take, List.length_drop, natsG_len]
    omega
   have hl1 : ((natsG ip).take (rowP (zerosG ip)).1).length + ((natsG ip).drop ((rowP (zerosG ip)).1 + (rowP (zerosG ip)).2)).length ≤ 7 := by
    rw [List.length_take, List.length_drop, natsG_len]
    omega
   have hg1 : ∀ n ∈ (natsG ip).take (rowP (zerosG ip)).1, n < 65536 := fun n hn => natsG_lt ip n (List.mem_of_mem_take hn)
   have hg2 : ∀ n ∈ (natsG ip).drop ((rowP (zerosG ip)).1 + (rowP (zerosG ip)).2), n < 65536 := fun n hn => natsG_lt ip n (List.mem_of_mem_drop hn)
   generalize (natsG ip).take (rowP (zerosG ip)).1 = g1 at *
   generalize (natsG ip).drop ((rowP (zerosG ip)).1 + (rowP (zerosG ip)).2) = g2 at *
   have he' : bareT ip = joinC 58 (g1.map hexN) ++ 58 :: 58 :: joinC 58 (g2.map hexN) := he
   rw [he', ← hmid]
   exact wholeMid_any g1 g2 (joinC 58 (g2.map hexN)) hg1 hl1 (Nat.le_trans (joinHex_len g2 (by omega)) (by decide)) w hM (fun V hV => several_any g2 hg2 (by omega) true V)
theorem joinC_mem {c x : UInt8} : ∀ {ps : List (List UInt8)}, x ∈ joinC c ps → x = c ∨ ∃ p ∈ ps, x ∈ p := by
 intro ps h
 cases ps with
 | nil => simp [joinC] at h
 | cons p ps =>
  simp only [joinC, List.mem_append, List.mem_flatMap, List.mem_cons] at h
  rcases h with h | ⟨q, hq, h | h⟩
  ·
   exact .inr ⟨p, List.mem_cons_self .., h⟩
  ·
   exact .inl h
  ·
   exact .inr ⟨q, List.mem_cons_of_mem _ hq, h⟩
theorem quadT_37 (a b c d : Nat) : (37 : UInt8) ∉ quadT a b c d := by
 have k : ∀ n : Nat, (37 : UInt8) ∉ Lib.itoa (n : Int) := fun n h => by
  have := (itoa_val n).2 37 h
  revert this
  decide
 unfold quadT
 intro h
 simp only [List.mem_append, List.mem_cons] at h
 rcases h with h | h | h | h | h | h | h
 ·
  exact k a h
 ·
  cases h
 ·
  exact k b h
 ·
  cases h
 ·
  exact k c h
 ·
  cases h
 ·
  exact k d h
theorem joinHex_37 (gs : List Nat) : (37 : UInt8) ∉ joinC 58 (gs.map hexN) := by
 intro h
 rcases joinC_mem h with h | ⟨p, hp, h⟩
 ·
  cases h
 ·
  obtain ⟨n, _, rfl⟩ := List.mem_map.1 hp
  exact hexN_37 n h
theorem bareT_37 (ip : List UInt8) : (37 : UInt8) ∉ bareT ip := by
 by_cases hm : mapG ip = true
 ·
  rw [bareT_map hm]
  intro h
  rcases List.mem_append.1 h with h | h
  ·
   revert h; decide
  ·
   exact quadT_37 _ _ _ _ h
 ·
  by_cases h2 : (rowP (zerosG ip)).2 < 2
  ·
   rw [bareT_all hm h2, ← natsG_hex]
   exact joinHex_37 _
  ·
   rw [bareT_two hm h2, ← natsG_hex, ← List.map_take, ← List.map_drop]
   intro h
   rcases List.mem_append.1 h with h | h
   ·
    rcases List.mem_append.1 h with h | h
    ·
     exact joinHex_37 _ h
    ·
     revert h; decide
   ·
    exact joinHex_37 _ h
def pcC (ip : List UInt8) (k : Nat) : List Value := .int .i64 6 :: (octs (ip.take (2 * k)) ++ (List.replicate (16 - 2 * k) (.int .u8 0) ++ [.int .i64 0]))
theorem pcC_len {ip : List UInt8} (h : ip.length = 16) {k : Nat} (hk : k ≤ 8) : (pcC ip k).length = 18 := by
 simp [pcC, octs_length, h]; omega
theorem pcC_0 (ip : List UInt8) : pcC ip 0 = [.int .i64 6, .int .u8 0, .int .u8 0, .int .u8 0, .int .u8 0, .int .u8 0, .int .u8 0, .int .u8 0, .int .u8 0, .int .u8 0, .int .u8 0, .int .u8 0, .int .u8 0, .int .u8 0, .int .u8 0, .int .u8 0, .int .u8 0, .int .i64 0] := rfl
theorem pcC_8 {ip : List UInt8} (h : ip.length = 16) : pcC ip 8 = (⟨6, ip, 0⟩ : Adr).cells := by
 unfold pcC
 rw [List.take_of_length_le (by omega)]
 rfl
theorem octs_snoc2 (l : List UInt8) (a b : UInt8) : octs (l ++ [a, b]) = octs l ++ [.int .u8 (a.toNat : Int), .int .u8 (b.toNat : Int)] := by simp [octs]
theorem pcC_next {ip : List UInt8} (h : ip.length = 16) {k : Nat} (hk : k < 8) : ((pcC ip k).set (1 + 2 * k) (.int .u8 (ipN ip (2 * k) : Int))).set (1 + (2 * k + 1)) (.int .u8 (ipN ip (2 * k + 1) : Int)) = pcC ip (k + 1) := by
 have e : ip.take (2 * (k + 1)) = ip.take (2 * k) ++ [ip[2 * k]'(by omega), ip[2 * k + 1]'(by omega)] := by
  rw [show 2 * (k + 1) = 2 * k + 1 + 1 by omega, List.take_succ_eq_append_getElem (by omega), List.take_succ_eq_append_getElem (by omega), List.append_assoc]
  rfl
 have hl : (octs (ip.take (2 * k))).length = 2 * k := by rw [octs_length, List.length_take]; omega
 have n0 : ipN ip (2 * k) = (ip[2 * k]'(by omega)).toNat := by unfold ipN; rw [List.getD_eq_getElem?_getD, List.getElem?_eq_getElem (by omega)]; rfl
 have n1 : ipN ip (2 * k + 1) = (ip[2 * k + 1]'(by omega)).toNat := by unfold ipN; rw [List.getD_eq_getElem?_getD, List.getElem?_eq_getElem (by omega)]; rfl
 unfold pcC
 rw [e, octs_snoc2, n0, n1, show 16 - 2 * k = (16 - 2 * (k + 1)) + 1 + 1 by omega, List.replicate_succ, List.replicate_succ, show 1 + 2 * k = (2 * k) + 1 by omega, show 1 + (2 * k + 1) = (2 * k + 1) + 1 by omega, List.set_cons_succ, List.set_cons_succ,
  List.set_append_right _ _ (by omega), List.set_append_right _ _ (by omega), hl, Nat.sub_self, show 2 * k + 1 - 2 * k = 1 by omega]
 simp
theorem run_ix8 {cs : List Value} (h8 : cs.length = 8) (k : Nat) (hk : k < 8) {n : Int} (hv : cs[k]? = some (.int .i64 n)) (W : World) : (Instr.index 269 (.agg cs.toArray) (.int .i64 (k : Int))).run prog W = .ok (.int .i64 n) W := by
 have h1 : 0 ≤ (k : Int) ∧ (k : Int) < 8 := ⟨by omega, by omega⟩
 simp [Instr.index, run_underlying underlying269, asIntOf, h1, go_sem, hv]
 intro h
 omega
theorem u8I9 : (prog.info? 5).map (·.size) = some 1 := by kernel_rfl
def CpAt (ip : List UInt8) (w0 : World) (g : Nat) (k : Nat) (W : World) : Prop := Blk W w0.heap.size 24 adrZ ∧ Blk W g 24 (pcC ip k) ∧ Below w0.heap.size w0 W
set_option maxHeartbeats 4000000 in
theorem colonParse_any (a : Adr) (h16 : a.ip.length = 16) (h6 : a.fam = 6) (hz : 0 ≤ a.zone ∧ a.zone ≤ 2147483647) (w : World) (hT : Tb w) (hM : Mx w) : Calls prog 135 #[.string (bs (colonT a))] w (RetB (.tuple #[.agg a.cells.toArray, .int .i64 0]) w) := by
 have A2 := Blk.new w 24 adrZ
 have H2 : Below w.heap.size w (w.alloc (.cells adrZ.toArray 24)) := (Below.refl _ _).alloc (Nat.le_refl _) _
 have WH := Hh (fun V (hV : Below w.heap.size w V) => wholeBare_any a.ip V (hT.below hV) (hM.below hV))
 have GN := natsG_len a.ip
 have HL := Hh (natsG_lt a.ip)
 obtain ⟨zt, hzt⟩ : ∃ zt : Bool, zt = decide (0 < a.zone) := ⟨_, rfl⟩
 have CT : Hid (∀ V, Calls prog 186 #[.string (bs (colonT a)), .int .u8 37] V (RetB (.tuple #[.string (bs (bareT a.ip)), .string (bs (if 0 < a.zone then Lib.itoa a.zone else [])), .bool zt]) V)) := Hh (fun V => by
  unfold colonT
  by_cases h0 : 0 < a.zone
  ·
   rw [hzt, if_pos h0, if_pos h0, decide_eq_true h0]
   exact cutYes_any (bareT a.ip) _ 37 (bareT_37 _) (Nat.le_trans (bareT_len _) (by decide)) V
  ·
   rw [hzt, if_neg h0, if_neg h0, decide_eq_false h0, List.append_nil]
   exact (cutNo_any (bareT a.ip) 37 (bareT_37 _) V).mono (fun e w' hr => hr.toB))
 generalize colonT a = T at *
 obtain ⟨ZT, hZT⟩ : ∃ ZT, Hid ((if 0 < a.zone then Lib.itoa a.zone else []) = ZT) := ⟨_, Hh rfl⟩
 rw [hZT.out] at CT
 obtain ⟨gs, hgs⟩ : ∃ gs, Hid (natsG a.ip = gs) := ⟨_, Hh rfl⟩
 rw [hgs.out] at WH GN HL
 generalize bareT a.ip = BT at *
 have hil := i8Inf6 GN
 have hnl := natsV_len gs
 rw [GN] at hnl
 have hone := natsV_one gs
 have hztd := Hh hzt
 clear hT hM hzt
 go_enter func135, ntmps135
 go_wp2_with fail
 refine (CT.out _).mono ?_
 rintro _ w1 ⟨rfl, b1⟩
 have A1 := A2.below b1 A2.lt
 have S1 := below_then H2 H2.size b1
 clear A2 H2 CT b1
 go_wp2_with fail
 refine (WH.out _ S1).mono ?_
 rintro _ w2 ⟨rfl, b2⟩
 have A3 := A1.below b2 A1.lt
 have S3 := below_then S1 S1.size b2
 have G3 := Blk.new w2 269 zer8
 have A3' := A3.alloc (.cells zer8.toArray 269)
 have S3' : Below w.heap.size w (w2.alloc (.cells zer8.toArray 269)) := S3.alloc S3.size _
 have hl2 := A3.lt
 clear A1 S1 WH b2 A3
 go_wp2_with (refine at_op (.store 269 (.tmp 6) (.tmp 22)) rfl ?_; go_must (refine wpList_stB rfl _ _ _ rfl w2.heap.size 0 rfl (natsV gs) rfl G3 (by rw [hnl]; exact Nat.le_refl 8) hil hone ?_))
 intro w4 B4 g4 sw
 clear sw
 have hz8 : zer8.drop 8 = [] := rfl
 have G4 : Blk w4 w2.heap.size 269 (natsV gs) := by simpa [hz8, hnl] using B4
 have A4 := A3'.grown g4 (by intro e; injection e with e; omega)
 have S4 := below_grown S3' g4 S3'.size S3.size
 have A5 := A4.alloc (.cells (pcC a.ip 0).toArray 24)
 have P5 := Blk.new w4 24 (pcC a.ip 0)
 have G5 := G4.alloc (.cells (pcC a.ip 0).toArray 24)
 have S5 : Below w.heap.size w (w4.alloc (.cells (pcC a.ip 0).toArray 24)) := S4.alloc S4.size _
 have hg8 : Hid (w.heap.size < w4.heap.size) := Hh A4.lt
 clear B4 g4 G3 A3' S3' S3 hz8 G4 A4 S4
 rw [pcC_0] at A5 P5 G5 S5
 replace P5 : Blk (w4.alloc (.cells #[.int .i64 6, .int .u8 0, .int .u8 0, .int .u8 0, .int .u8 0, .int .u8 0, .int .u8 0, .int .u8 0, .int .u8 0, .int .u8 0, .int .u8 0, .int .u8 0, .int .u8 0, .int .u8 0, .int .u8 0, .int .u8 0, .int .u8 0, .int .i64 0] 24)) w4.heap.size 24 (pcC a.ip 0) := P5
 go_wp2_with (refine at_op (.load 269 (.tmp 6)) rfl ?_; go_must (refine wpList_ldB rfl _ _ rfl w2.heap.size 0 rfl G5 8 (by omega) _ underlying269 rfl i8Info (natsV gs) (tk0 (by omega)) ?_))
 generalize w4.alloc (.cells #[.int .i64 6, .int .u8 0, .int .u8 0, .int .u8 0, .int .u8 0, .int .u8 0, .int .u8 0, .int .u8 0, .int .u8 0, .int .u8 0, .int .u8 0, .int .u8 0, .int .u8 0, .int .u8 0, .int .u8 0, .int .u8 0, .int .u8 0, .int .i64 0] 24) = W5 at *
 obtain ⟨g8, hgg⟩ : ∃ g8, Hid (w4.heap.size = g8) := ⟨_, Hh rfl⟩
 rw [hgg.out] at P5 hg8 ⊢
 clear G5 hgg
 have PN := Hh (fun k (hk : k < 8) => pcC_next h16 hk)
 have PL := Hh (fun k (hk : k ≤ 8) => pcC_len h16 hk)
 have NL := Hh (fun k => ipN_lt a.ip k)
 have GA : Hid (∀ k (hk : k < 8), gs[k]'(by omega) = 256 * ipN a.ip (2 * k) + ipN a.ip (2 * k + 1)) := Hh (fun k hk => by
  have := natsG_at a.ip hk
  simp only [hgs.out] at this
  exact this)
 go_loopw [29] (fun iv wr => ∃ k : Nat, k ≤ 8 ∧ iv = .int .i64 k ∧ CpAt a.ip w g8 k wr) (fun iv _ => 8 - (intOf iv).toNat)
 case atStart => exact ⟨0, Nat.zero_le _, rfl, A5, P5, S5⟩
 clear A5 P5 S5
 obtain ⟨k, hk, rfl, hA, hP, hS⟩ := hrel
 by_cases hlt : k < 8
 case pos =>
  have hlt' : (k : Int) < 8 := by omega
  have hgk := GA.out k hlt
  have hgl : (natsV gs)[k]? = some (.int .i64 (gs[k]'(by omega) : Nat)) := by unfold natsV; rw [List.getElem?_map, List.getElem?_eq_getElem (by omega)]; rfl
  have x0 := NL.out (2 * k)
  have x1 := NL.out (2 * k + 1)
  have hpl := PL.out k hk
  have HPN := Hh (PN.out k hlt)
  rw [hgk] at hgl
  generalize ipN a.ip (2 * k) = x at *
  generalize ipN a.ip (2 * k + 1) = y at *
  have IXk := fun W => run_ix8 (cs := natsV gs) hnl k hlt hgl W
  have hx8 : IntKind.u8.wrap (((256 * x + y : Nat) : Int) / 256) = (x : Int) := by rw [show ((256 * x + y : Nat) : Int) / 256 = (x : Int) by omega]; exact IntWalk.u8_in _ (by omega)
  have hy8 : IntKind.u8.wrap ((256 * x + y : Nat) : Int) = (y : Int) := by simp [IntKind.wrap, IntKind.signed, IntKind.bits]; omega
  clear GA NL PN hgk hgl
  generalize ((256 * x + y : Nat) : Int) = m at *
  go_wp2_with (refine at_op (.store 5 (.tmp 44) (.tmp 40)) rfl ?_; go_must (refine wpList_stC rfl 5 (.tmp 44) (.tmp 40) rfl g8 (1 + 2 * k) rfl (.int .u8 (x : Int)) rfl hP (by omega) u8I9 rfl rfl ?_))
  intro w6 B6 g6 sw
  clear sw
  have hA6 := hA.grown g6 (by intro e; injection e with e; have := hg8.out; omega)
  have hS6 := below_grown hS g6 hS.size (by have := hg8.out; omega)
  have hl6 : ((pcC a.ip k).set (1 + 2 * k) (.int .u8 (x : Int))).length = 18 := by rw [List.length_set, hpl]
  clear g6 hP hA hS
  go_wp2_with (refine at_op (.store 5 (.tmp 46) (.tmp 42)) rfl ?_; go_must (refine wpList_stC rfl 5 (.tmp 46) (.tmp 42) rfl g8 (1 + (2 * k + 1)) rfl (.int .u8 (y : Int)) rfl B6 (by omega) u8I9 rfl rfl ?_))
  intro w7 B7 g7 sw
  clear sw
  rw [HPN.out] at B7
  have hA7 := hA6.grown g7 (by intro e; injection e with e; have := hg8.out; omega)
  have hS7 := below_grown hS6 g7 hS6.size (by have := hg8.out; omega)
  clear g7 B6 hA6 hS6
  go_wp2_with fail
  go_roundw
  case rel => exact ⟨k + 1, by omega, by go_num, hA7, B7, hS7⟩
  case measure => simp [intOf]; omega
 obtain rfl : k = 8 := by omega
 have hlt' : ¬ ((8 : Nat) : Int) < 8 := by omega
 rw [pcC_8 h16] at hP
 clear GA NL PN PL HL hlt hk
 by_cases hz0 : 0 < a.zone
 case neg =>
  have hzt : zt = false := by rw [hztd.out, decide_eq_false hz0]
  have hz1 : a.zone = 0 := by omega
  have hac : (⟨6, a.ip, 0⟩ : Adr).cells = a.cells := by rw [← h6, ← hz1]
  rw [hac] at hP
  subst hzt
  have hl18 := a.cells_len h16
  have h1c := a.cells_one
  have hI18 : (prog.info? 24).map (·.size) = some a.cells.length := by rw [hl18]; exact adrInfo
  generalize a.cells = ac at *
  clear hztd hac hz0
  go_wp2_with (first
   | (refine at_op (.load 24 (.tmp 8)) rfl ?_; go_must (refine wpList_ldB rfl _ _ rfl g8 0 rfl hP 18 (by omega) _ underlying24 rfl adrInfo ac (tk0 (by omega)) ?_))
   | (refine at_op (.store 24 (.tmp 2) (.tmp 50)) rfl ?_; go_must (refine wpList_stB rfl _ _ _ rfl w.heap.size 0 rfl ac rfl hA (by rw [hl18]; exact Nat.le_refl 18) hI18 h1c ?_)))
  intro w6 B6 g6 sw
  clear sw
  have hz18 : adrZ.drop 18 = [] := rfl
  have Y6 : Blk w6 w.heap.size 24 ac := by simpa [hz18, hl18] using B6
  have S6 := below_grown hS g6 hS.size (Nat.le_refl _)
  clear B6 g6 hP hA hS
  go_wp2_with fail
  refine ret_cell_tmp rfl w.heap.size rfl Y6 _ underlying24 rfl hI18 rfl _ rfl ?_
  exact RetB.mk rfl S6
 have hzt : zt = true := by rw [hztd.out, decide_eq_true hz0]
 obtain ⟨n, hn⟩ : ∃ n : Nat, a.zone = (n : Int) := ⟨a.zone.toNat, by omega⟩
 have hset : ((⟨6, a.ip, 0⟩ : Adr).cells).set 17 (.int .i64 (n : Int)) = a.cells := by
  have e : a = ⟨6, a.ip, (n : Int)⟩ := by rw [← h6, ← hn]
  conv => rhs; rw [e]
  simp [Adr.cells, octs_length, h16]
 have hl0 : ((⟨6, a.ip, 0⟩ : Adr).cells).length = 18 := Adr.cells_len (a := ⟨6, a.ip, 0⟩) h16
 have hZ2 : Lib.itoa (n : Int) = ZT := by rw [← hZT.out, if_pos hz0, hn]
 have hv := itoa_val n
 have hp := itoa_pos n
 have hl9 := itoa_len (n : Int) (by omega) (by omega)
 rw [hZ2] at hv hp hl9
 have NM := Hh (fun V => numD_any ZT 2147483647 hp (by omega) hv.2 (by decide) (by rw [hv.1]; omega) V)
 rw [hv.1] at NM
 have hn0 : ((n : Int) == 0) = false := by simp; omega
 have hl18 := a.cells_len h16
 have h1c := a.cells_one
 have hI18 : (prog.info? 24).map (·.size) = some a.cells.length := by rw [hl18]; exact adrInfo
 generalize (⟨6, a.ip, 0⟩ : Adr).cells = a0 at *
 generalize a.cells = ac at *
 have HSET := Hh hset
 have hn1 : 0 < (n : Int) := by omega
 clear hztd hz0 hset hZ2 hv hp hl9 hz h6 hZT hgs
 subst hzt
 go_wp2_with fail
 refine (NM.out _).mono ?_
 rintro _ _ ⟨rfl, rfl⟩
 clear NM
 go_wp2_with (refine at_op (.store 3 (.tmp 64) (.tmp 63)) rfl ?_; go_must (refine wpList_stC rfl 3 (.tmp 64) (.tmp 63) rfl g8 17 rfl (.int .i64 (n : Int)) rfl hP (by omega) intSize1 rfl rfl ?_))
 intro w6 B6 g6 sw
 clear sw
 rw [HSET.out] at B6
 have hA6 := hA.grown g6 (by intro e; injection e with e; have := hg8.out; omega)
 have hS6 := below_grown hS g6 hS.size (by have := hg8.out; omega)
 clear g6 hP hA hS
 go_wp2_with (first
  | (refine at_op (.load 24 (.tmp 8)) rfl ?_; go_must (refine wpList_ldB rfl _ _ rfl g8 0 rfl B6 18 (by omega) _ underlying24 rfl adrInfo ac (tk0 (by omega)) ?_))
  | (refine at_op (.store 24 (.tmp 2) (.tmp 65)) rfl ?_; go_must (refine wpList_stB rfl _ _ _ rfl w.heap.size 0 rfl ac rfl hA6 (by rw [hl18]; exact Nat.le_refl 18) hI18 h1c ?_)))
 intro w7 B7 g7 sw
 clear sw
 have hz18 : adrZ.drop 18 = [] := rfl
 have Y7 : Blk w7 w.heap.size 24 ac := by simpa [hz18, hl18] using B7
 have S7 := below_grown hS6 g7 hS6.size (Nat.le_refl _)
 clear B7 g7 B6 hA6 hS6
 go_wp2_with fail
 refine ret_cell_tmp rfl w.heap.size rfl Y7 _ underlying24 rfl hI18 rfl _ rfl ?_
 exact RetB.mk rfl S7
theorem ixb_mem {c : UInt8} : ∀ {s : List UInt8}, c ∈ s → 0 ≤ Lib.indexByte s c := by
 intro s
 induction s with
 | nil => intro h; cases h
 | cons b s ih =>
  intro h
  unfold Lib.indexByte
  by_cases hb : (b == c) = true
  ·
   rw [if_pos hb]; decide
  ·
   rw [if_neg hb]
   rcases List.mem_cons.1 h with e | h
   ·
    exact absurd (by rw [e]; exact beq_self_eq_true _) hb
   ·
    have := ih h
    rw [if_neg (by simp; omega)]
    omega
theorem bareT_58 (ip : List UInt8) : (58 : UInt8) ∈ bareT ip := by
 by_cases hm : mapG ip = true
 ·
  rw [bareT_map hm]; simp
 ·
  by_cases h2 : (rowP (zerosG ip)).2 < 2
  ·
   rw [bareT_all hm h2, ← natsG_hex]
   have : natsG ip = [grp ip 0, grp ip 1, grp ip 2, grp ip 3, grp ip 4, grp ip 5, grp ip 6, grp ip 7] := rfl
   rw [this]
   simp [joinC]
  ·
   rw [bareT_two hm h2]; simp
theorem colonT_58 (a : Adr) : (58 : UInt8) ∈ colonT a := by unfold colonT; exact List.mem_append.2 (.inl (bareT_58 a.ip))
theorem addrParse6_any (a : Adr) (h16 : a.ip.length = 16) (h6 : a.fam = 6) (hz : 0 ≤ a.zone ∧ a.zone ≤ 2147483647) (w : World) (hT : Tb w) (hM : Mx w) : Calls prog 86 #[.string (bs (colonT a))] w (RetB (.tuple #[.agg a.cells.toArray, .int .i64 0]) w) := by
 have IX := Hh (fun V => Tryz.strings_IndexByte (bs (colonT a)) 58 V)
 have e : 0 ≤ Lib.indexByte (bs (colonT a)).data.toList (58 : Int).toNat.toUInt8 := ixb_mem (colonT_58 a)
 obtain ⟨m, hm⟩ : ∃ m, Hid (Lib.indexByte (bs (colonT a)).data.toList (58 : Int).toNat.toUInt8 = m) := ⟨_, Hh rfl⟩
 rw [hm.out] at IX e
 have QP := Hh (fun V (hV : Below w.heap.size w V) => colonParse_any a h16 h6 hz V (hT.below hV) (hM.below hV))
 have hql : a.cells.length = 18 := a.cells_len h16
 have hqo : ∀ v ∈ a.cells, v.oneCell' = true := a.cells_one
 have hI18 : (prog.info? 24).map (·.size) = some a.cells.length := by rw [hql]; exact adrInfo
 generalize colonT a = T at *
 generalize a.cells = qc at *
 have Z2 := Blk.newA w _ rfl
 have BB : Below w.heap.size w (w.alloc (.cells adrZ.toArray 24)) := (Below.refl _ _).alloc (Nat.le_refl _) _
 go_enter func86, ntmps86
 go_wp2_with fail
 refine (IX.out _).mono ?_
 rintro _ _ ⟨rfl, rfl⟩
 clear IX
 go_wp2_with fail
 refine (QP.out _ BB).mono ?_
 rintro _ w2 ⟨rfl, b1⟩
 have Y2 := Z2.below b1 Z2.lt
 have S2 := below_then BB BB.size b1
 clear QP Z2 BB b1
 go_wp2_with (refine at_op (.store 24 (.tmp 2) (.tmp 9)) rfl ?_; go_must (refine wpList_stB rfl _ _ _ rfl w.heap.size 0 rfl qc rfl Y2 (by rw [hql]; exact Nat.le_refl 18) (by rw [hql]; exact adrInfo) hqo ?_))
 intro w6 B6 g6 _
 have X6 := blkAll B6 (by have : adrZ.length = 18 := rfl; omega)
 have S6 := below_grown S2 g6 S2.size (Nat.le_refl _)
 clear B6 g6 Y2 S2
 go_wp2_with fail
 refine ret_cell_tmp rfl w.heap.size rfl X6 _ underlying24 rfl (by rw [hql]; exact adrInfo) rfl _ rfl ?_
 exact RetB.mk rfl S6
end Go.Proofs.YteimenplbanooaaGreatDoor
