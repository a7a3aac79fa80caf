/-
  Layer 13 (rdata): getAddr, getSRV.
-/
import Derived.Test.YtlmgdogblbigpaaGd1
namespace Go.Proofs.Ytlmgdogblbigpaa
open Go.RowKit
set_option maxRecDepth 100000
set_option linter.unusedVariables false
set_option linter.unusedSimpArgs false

theorem grown_setRow {a w : World} {g : Nat} (h : a.grownBy w (some g)) (ds : Array Value) : a.grownBy (w.setRow g ds) (some g) :=
  grown_trans h ⟨rfl, rfl, rfl, by simp, fun k hk hne => setRow_other _ _ _ _ (fun e => hne (by rw [e]))⟩ (.inl rfl)
/-- copy of a string that fits into a block known whole. -/
theorem wpList_cpyS (w : World) {ops : Array Oper} {rest : List Oper} {o : Oper} {a : Act} {Q : Exit → Act → World → Prop} (hgd : o.guard = none) (d x : Operand)
    (ho : o.op = .call { callee := .builtin .copy, args := #[d, x], argTypes := #[94, 9] }) (g off len cap : Nat) (hd : a.eval d = .slice (some ⟨g, off, none⟩) len cap) (s : List UInt8) (hx : a.eval x = .string (bs s))
    {t : TypeId} {L : List Value} (hb : Blk w g t L) (hle : s.length ≤ len) (hfit : off + s.length ≤ L.length)
    (h : ∀ w', Blk w' g t (L.take off ++ octs s ++ L.drop (off + s.length)) → w.grownBy w' (some g) → wpList Try.prog ops Q rest (a.put o.dst (.int .i64 s.length)) w') : wpList Try.prog ops Q (o :: rest) a w := by
  refine wpList_plain hgd fun K hK => ?_
  have hr := Lib.run_copy_row_string (P := Try.prog) w 94 9 o.type 5 g off len cap (bs s) L.toArray t Try.underlying94 byteSize hb (by simpa using hle) (by simpa using hfit)
  have e : Lib.byteCells (bs s).data.toList = octs s := by simp [bs, Lib.byteCells, octs]
  rw [e, bs_size] at hr
  unfold Oper.wp execOp
  simp only [ho, resolve, invoke, builtin, Sem.run_bind, Sem.run_pure, Result.andThen_ok, List.map_toArray, List.map_cons, List.map_nil, hd, hx, hr]
  exact hK _ _ (h _ (setRow_blk hb _) (grown_setRow (World.grownBy.refl _ _) _))
def adR (fam : Int) (d : List UInt8) : RR := { RR.zero with ad := ⟨fam, d ++ List.replicate (16 - d.length) 0, 0⟩ }
theorem adR_cells (fam : Int) (d : List UInt8) (hd : d.length = 4 ∨ d.length = 16) :
    (rrZ.set 4 (.int .i64 fam)).take 5 ++ octs d ++ (rrZ.set 4 (.int .i64 fam)).drop (5 + d.length) = rrC nilS nilS nilS (adR fam d) := by
  rcases hd with hd | hd
  · have : adR fam d = { RR.zero with ad := ⟨fam, d ++ List.replicate 12 0, 0⟩ } := by unfold adR; rw [hd]
    rw [this, hd]
    simp only [rrC, Adr.cells, octs_app, List.append_assoc, List.cons_append]
    rfl
  · have : adR fam d = { RR.zero with ad := ⟨fam, d ++ List.replicate 0 0, 0⟩ } := by unfold adR; rw [hd]
    rw [this, hd]
    simp only [rrC, Adr.cells, octs_app, List.append_assoc, List.cons_append]
    rfl
def GaRet (g : Nat) (L : List Value) (w : World) (e : Ending) (w' : World) : Prop := e = .returned (.int .i64 0) ∧ Blk w' g 86 L ∧ w.grownBy w' (some g)
theorem getAddr_ok (g : Nat) (d : List UInt8) (fam : Int) (w : World) (hb : Blk w g 86 rrZ) (hd : d.length = 4 ∨ d.length = 16) :
    Calls Try.prog 93 #[.pointer (some ⟨g, 0, none⟩), .string (bs d), .int .i64 d.length, .int .i64 fam] w (GaRet g (rrC nilS nilS nilS (adR fam d)) w) := by
  have hl := rrZ_len
  have RC := Lib.hid (adR_cells fam d hd)
  have hd16 : d.length ≤ 16 := by omega
  generalize rrC nilS nilS nilS (adR fam d) = L1 at *
  generalize rrZ = L at *
  go_enter Try.func93, Try.ntmps93
  go_wp2_with (refine at_op (.store 3 (.tmp 17) (.tmp 14)) rfl ?_; go_must (refine wpList_stC rfl 3 (.tmp 17) (.tmp 14) rfl g 4 rfl _ rfl hb (by omega) intInfo1 rfl rfl ?_))
  intro w1 hb1 hg1 hs1
  have hl1 : (L.set 4 (.int .i64 fam)).length = 33 := by simpa using hl
  go_wp2_with (refine at_op (.call { callee := .builtin .copy, args := #[.tmp 22, .tmp 23], argTypes := #[94, 9] }) rfl ?_; go_must (refine wpList_cpyS _ rfl (.tmp 22) (.tmp 23) rfl g 5 16 16 rfl d rfl hb1 hd16 (by omega) ?_))
  intro w2 hb2 hg2
  rw [← List.append_assoc, RC.out] at hb2
  go_wp2_with fail
  go_ret
  exact ⟨rfl, hb2, grown_trans hg1 hg2 (.inl rfl)⟩
theorem getAddr_no (g : Nat) (d : List UInt8) (wd : Nat) (fam : Int) (w : World) (hd : d.length ≠ wd) :
    Calls Try.prog 93 #[.pointer (some ⟨g, 0, none⟩), .string (bs d), .int .i64 wd, .int .i64 fam] w (Ret (.int .i64 5) w) := by
  have hd' : ((d.length : Int) != (wd : Int)) = true := by simp; omega
  clear hd
  go_enter Try.func93, Try.ntmps93
  go_wp2_with fail
  go_ret
  exact Ret.mk rfl rfl
/-- Three numbers of too few octets. -/
theorem srv_short (l : List UInt8) (h : l.length < 6) : takeS (takeR (takeR l false 2) (takeS l false 2) 2) (takeS (takeR l false 2) (takeS l false 2) 2) 2 = true := by
  by_cases h1 : l.length < 2
  · simp [takeS, takeR, h1]
  · by_cases h2 : l.length - 2 < 2
    · simp [takeS, takeR, h1, h2]
    · simp [takeS, takeR, h1, h2]; omega
theorem srv_long (l : List UInt8) (h : 6 ≤ l.length) : takeS l false 2 = false ∧ takeR l false 2 = l.drop 2 ∧ takeV l false 2 = l.take 2 ∧ takeS (l.drop 2) false 2 = false ∧ takeR (l.drop 2) false 2 = l.drop 4 ∧ takeV (l.drop 2) false 2 = (l.drop 2).take 2 ∧ takeS (l.drop 4) false 2 = false ∧ takeR (l.drop 4) false 2 = l.drop 6 ∧ takeV (l.drop 4) false 2 = (l.drop 4).take 2 := by
  have h1 : ¬ l.length < 2 := by omega
  have h2 : ¬ l.length - 2 < 2 := by omega
  have h3 : ¬ l.length - 4 < 2 := by omega
  simp [takeS, takeR, takeV, h1, h2, h3]
theorem takeR_len (l : List UInt8) (b : Bool) (n : Int) : (takeR l b n).length ≤ l.length := by unfold takeR; split <;> simp
/-- What getSRV leaves: the numbers. -/
def srvL (L : List Value) (a b c : Int) : List Value := ((L.set 24 (.int .i64 a)).set 25 (.int .i64 b)).set 26 (.int .i64 c)
structure Nxt (d : List UInt8) (sh : Bool) (n : Nat) (d' : List UInt8) (sh' : Bool) : Prop where
  hn : n = numB (takeV d sh 2)
  hd : d' = takeR d sh 2
  hs : sh' = takeS d sh 2
theorem num_nxt (gy : Nat) (d : List UInt8) (sh : Bool) (w : World) (h : EyeAt w gy d sh) (hm : d.length ≤ maxLen) :
    Calls Try.prog 122 #[.pointer (some ⟨gy, 0, none⟩), .int .i64 2] w (fun e w' => ∃ n d' sh', e = .returned (.int .i64 (n : Nat)) ∧ Hid (Nxt d sh n d' sh') ∧ Hid (d'.length ≤ maxLen) ∧ EyeAt w' gy d' sh' ∧ w.grownBy w' (some gy)) := by
  refine (num_any gy d sh 2 w h hm).mono ?_
  rintro _ w' ⟨rfl, h1, h2⟩
  exact ⟨_, _, _, rfl, Lib.hid ⟨rfl, rfl, rfl⟩, Lib.hid (Nat.le_trans (takeR_len _ _ _) hm), h1, h2⟩
set_option maxHeartbeats 1000000 in
theorem getSRV_short (g : Nat) (L : List Value) (s : List UInt8) (a : Nat) (w : World) (hb : Blk w g 86 L) (hl : L.length = 33) (ha : a ≤ s.length) (hn : s.length < a + 6) (hs0 : s.length ≤ 4000000) :
    Calls Try.prog 95 #[.pointer (some ⟨g, 0, none⟩), .string (bs s), .int .i64 a] w (fun e w' => e = .returned (.int .i64 5) ∧ w.grownBy w' (some g)) := by
  have E := Lib.hid (srv_short (s.drop a) (by simp; omega))
  have hgl := hb.lt
  have ha' : (a : Int) ≤ s.length := by omega
  have hm : (s.drop a).length ≤ maxLen := by simp [maxLen]; omega
  have hs := Lib.hid hs0
  clear hs0
  go_enter Try.func95, Try.ntmps95
  go_wp2_with fail
  refine (new_any (s.drop a) w).mono ?_
  rintro _ w1 ⟨rfl, e1, b1⟩
  have B1 := hb.below b1 hb.lt
  have G1 := grown_of_below b1 (some g)
  have hgn : w.heap.size ≠ g := by omega
  obtain ⟨gy, hgy⟩ : ∃ gy, gy = w.heap.size := ⟨_, rfl⟩
  rw [← hgy] at e1 hgn ⊢
  replace hgy : w.heap.size ≤ gy := by omega
  generalize hd0 : s.drop a = d0 at *
  have HD := Lib.hid hd0
  clear hd0
  have HM := Lib.hid hm
  clear hm
  go_wp2_with fail
  refine (num_nxt gy d0 false w1 e1 HM.out).mono ?_
  rintro _ w2 ⟨n1, d1, s1, rfl, x1, m1, e2, g2⟩
  have B2 := B1.grown g2 (by simpa using hgn.symm)
  have G2 := grown_trans G1 g2 (.inr (fun k hk => by injection hk with hk; omega))
  clear e1 b1 B1 G1 g2
  go_wp2_with fail
  refine (num_nxt gy d1 s1 w2 e2 m1.out).mono ?_
  rintro _ w3 ⟨n2, d2, s2, rfl, x2, m2, e3, g3⟩
  have B3 := B2.grown g3 (by simpa using hgn.symm)
  have G3 := grown_trans G2 g3 (.inr (fun k hk => by injection hk with hk; omega))
  clear e2 B2 G2 g3
  go_wp2_with fail
  refine (num_nxt gy d2 s2 w3 e3 m2.out).mono ?_
  rintro _ w4 ⟨n3, d3, s3, rfl, x3, m3, e4, g4⟩
  have B4 := B3.grown g4 (by simpa using hgn.symm)
  have G4 := grown_trans G3 g4 (.inr (fun k hk => by injection hk with hk; omega))
  clear e3 B3 G3 g4
  obtain rfl : s3 = true := by rw [x3.out.hs, x2.out.hd, x2.out.hs, x1.out.hd, x1.out.hs]; exact E.out
  clear E x1 x2 x3
  go_wp2_with (refine at_op (.store 3 (.tmp 22) (.tmp 16)) rfl ?_; go_must (refine wpList_stC rfl 3 (.tmp 22) (.tmp 16) rfl g 24 rfl _ rfl B4 (by omega) intInfo1 rfl rfl ?_))
  intro w5 B5 g5 _
  have E5 := e4.grown g5 (by simpa using hgn)
  have G5 := grown_trans G4 g5 (.inl rfl)
  clear B4 G4 g5 e4
  go_wp2_with (refine at_op (.store 3 (.tmp 24) (.tmp 18)) rfl ?_; go_must (refine wpList_stC rfl 3 (.tmp 24) (.tmp 18) rfl g 25 rfl _ rfl B5 (by simp only [List.length_set]; omega) intInfo1 rfl rfl ?_))
  intro w6 B6 g6 _
  have E6 := E5.grown g6 (by simpa using hgn)
  have G6 := grown_trans G5 g6 (.inl rfl)
  clear B5 G5 g6 E5
  go_wp2_with (refine at_op (.store 3 (.tmp 26) (.tmp 20)) rfl ?_; go_must (refine wpList_stC rfl 3 (.tmp 26) (.tmp 20) rfl g 26 rfl _ rfl B6 (by simp only [List.length_set]; omega) intInfo1 rfl rfl ?_))
  intro w7 B7 g7 _
  have E7 := E6.grown g7 (by simpa using hgn)
  have G7 := grown_trans G6 g7 (.inl rfl)
  clear B6 G6 g7 E6
  go_wp2_with fail
  refine (err_any gy d3 true w7 E7).mono ?_
  rintro _ w8 ⟨rfl, rfl⟩
  simp only [if_true]
  go_wp2_with fail
  go_ret
  exact ⟨rfl, G7⟩
set_option maxHeartbeats 1000000 in
theorem getSRV_long (g : Nat) (L : List Value) (s : List UInt8) (a : Nat) (w : World) (hb : Blk w g 86 L) (hl : L.length = 33) (ha : a ≤ s.length) (hn : a + 6 ≤ s.length) (hs0 : s.length ≤ 4000000) :
    Calls Try.prog 95 #[.pointer (some ⟨g, 0, none⟩), .string (bs s), .int .i64 a] w (fun e w' => ∃ w1, w.grownBy w1 (some g) ∧ TgRet g (srvL L (numB ((s.drop a).take 2)) (numB (((s.drop a).drop 2).take 2)) (numB (((s.drop a).drop 4).take 2))) (targAt s (a + 6)) w1 e w') := by
  have E := Lib.hid (srv_long (s.drop a) (by simp; omega))
  have hdl : ((s.drop a).drop 6).length = s.length - (a + 6) := by rw [List.drop_drop, List.length_drop]
  have hgl := hb.lt
  have ha' : (a : Int) ≤ s.length := by omega
  have hm : (s.drop a).length ≤ maxLen := by simp [maxLen]; omega
  have hs := Lib.hid hs0
  clear hs0
  go_enter Try.func95, Try.ntmps95
  go_wp2_with fail
  refine (new_any (s.drop a) w).mono ?_
  rintro _ w1 ⟨rfl, e1, b1⟩
  have B1 := hb.below b1 hb.lt
  have G1 := grown_of_below b1 (some g)
  have hgn : w.heap.size ≠ g := by omega
  obtain ⟨gy, hgy⟩ : ∃ gy, gy = w.heap.size := ⟨_, rfl⟩
  rw [← hgy] at e1 hgn ⊢
  replace hgy : w.heap.size ≤ gy := by omega
  generalize hd0 : s.drop a = d0 at *
  have HD := Lib.hid hd0
  clear hd0
  have HM := Lib.hid hm
  clear hm
  go_wp2_with fail
  refine (num_nxt gy d0 false w1 e1 HM.out).mono ?_
  rintro _ w2 ⟨n1, d1, s1, rfl, x1, m1, e2, g2⟩
  have B2 := B1.grown g2 (by simpa using hgn.symm)
  have G2 := grown_trans G1 g2 (.inr (fun k hk => by injection hk with hk; omega))
  clear e1 b1 B1 G1 g2
  go_wp2_with fail
  refine (num_nxt gy d1 s1 w2 e2 m1.out).mono ?_
  rintro _ w3 ⟨n2, d2, s2, rfl, x2, m2, e3, g3⟩
  have B3 := B2.grown g3 (by simpa using hgn.symm)
  have G3 := grown_trans G2 g3 (.inr (fun k hk => by injection hk with hk; omega))
  clear e2 B2 G2 g3
  go_wp2_with fail
  refine (num_nxt gy d2 s2 w3 e3 m2.out).mono ?_
  rintro _ w4 ⟨n3, d3, s3, rfl, x3, m3, e4, g4⟩
  have B4 := B3.grown g4 (by simpa using hgn.symm)
  have G4 := grown_trans G3 g4 (.inr (fun k hk => by injection hk with hk; omega))
  clear e3 B3 G3 g4
  obtain ⟨h1, h2, h3, h4, h5, h6, h7, h8, h9⟩ := E.out
  obtain rfl : s1 = false := by rw [x1.out.hs]; exact h1
  obtain rfl : d1 = d0.drop 2 := by rw [x1.out.hd]; exact h2
  obtain rfl : s2 = false := by rw [x2.out.hs]; exact h4
  obtain rfl : d2 = d0.drop 4 := by rw [x2.out.hd]; exact h5
  obtain rfl : s3 = false := by rw [x3.out.hs]; exact h7
  have hd3 : d3 = d0.drop 6 := by rw [x3.out.hd]; exact h8
  have q1 := x1.out.hn
  have q2 := x2.out.hn
  have q3 := x3.out.hn
  rw [h3] at q1
  rw [h6] at q2
  rw [h9] at q3
  rw [← hd3] at hdl
  have Q1 := Lib.hid q1
  have Q2 := Lib.hid q2
  have Q3 := Lib.hid q3
  clear E x1 x2 x3 h1 h2 h3 h4 h5 h6 h7 h8 h9 q1 q2 q3 hd3
  go_wp2_with (refine at_op (.store 3 (.tmp 22) (.tmp 16)) rfl ?_; go_must (refine wpList_stC rfl 3 (.tmp 22) (.tmp 16) rfl g 24 rfl _ rfl B4 (by omega) intInfo1 rfl rfl ?_))
  intro w5 B5 g5 _
  have E5 := e4.grown g5 (by simpa using hgn)
  have G5 := grown_trans G4 g5 (.inl rfl)
  clear B4 G4 g5 e4
  go_wp2_with (refine at_op (.store 3 (.tmp 24) (.tmp 18)) rfl ?_; go_must (refine wpList_stC rfl 3 (.tmp 24) (.tmp 18) rfl g 25 rfl _ rfl B5 (by simp only [List.length_set]; omega) intInfo1 rfl rfl ?_))
  intro w6 B6 g6 _
  have E6 := E5.grown g6 (by simpa using hgn)
  have G6 := grown_trans G5 g6 (.inl rfl)
  clear B5 G5 g6 E5
  go_wp2_with (refine at_op (.store 3 (.tmp 26) (.tmp 20)) rfl ?_; go_must (refine wpList_stC rfl 3 (.tmp 26) (.tmp 20) rfl g 26 rfl _ rfl B6 (by simp only [List.length_set]; omega) intInfo1 rfl rfl ?_))
  intro w7 B7 g7 _
  have E7 := E6.grown g7 (by simpa using hgn)
  have G7 := grown_trans G6 g7 (.inl rfl)
  clear B6 G6 g7 E6
  replace B7 : Blk w7 g 86 (srvL L n1 n2 n3) := B7
  have hsl : (srvL L n1 n2 n3).length = 33 := by simpa [srvL] using hl
  have T := Lib.hid (getTarget_any g (srvL L n1 n2 n3) s (a + 6) w7 B7 hsl hs.out)
  have hla : Hid (wrap64 ((s.length : Int) - (d3.length : Int)) = ((a + 6 : Nat) : Int)) := Lib.hid (by have := hs.out; rw [IntWalk.wrap64_in _ (by omega)]; omega)
  clear hdl
  go_wp2_with fail
  refine (err_any gy d3 false w7 E7).mono ?_
  rintro _ w8 ⟨rfl, rfl⟩
  go_wp2_with fail
  refine (left_any gy d3 false w7 E7).mono ?_
  rintro _ w8 ⟨rfl, rfl⟩
  cases ht : targAt s (a + 6) with
  | error x =>
    rw [ht] at T
    go_wp2_with fail
    rw [hla.out]
    refine T.out.mono ?_
    rintro _ w8 ⟨hx, rfl, hT⟩
    go_wp2_with fail
    go_ret
    refine ⟨w7, G7, ?_⟩
    rw [HD.out, ← Q1.out, ← Q2.out, ← Q3.out, ht]
    exact ⟨hx, rfl, hT⟩
  | ok l =>
    rw [ht] at T
    go_wp2_with fail
    rw [hla.out]
    refine T.out.mono ?_
    rintro _ w8 ⟨v, rfl, hT⟩
    go_wp2_with fail
    go_ret
    refine ⟨w7, G7, ?_⟩
    rw [HD.out, ← Q1.out, ← Q2.out, ← Q3.out, ht]
    exact ⟨v, rfl, hT⟩
end Go.Proofs.Ytlmgdogblbigpaa
