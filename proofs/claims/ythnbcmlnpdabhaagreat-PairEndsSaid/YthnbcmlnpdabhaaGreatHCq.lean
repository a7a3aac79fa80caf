/-
  Layer 13 (rdata): name, getTarget, getAddr, getSRV.
-/
import Derived.Test.YthnbcmlnpdabhaaGreatHAq
namespace Go.Proofs.YthnbcmlnpdabhaaGreat
open _root_.Go.Proofs.Tryz
open Go.RowKit
set_option maxRecDepth 100000
set_option linter.unusedVariables false
set_option linter.unusedSimpArgs false
def nE (o : GO) : Int := if goE o = 1 then 5 else goE o
def NmRet (o : GO) (w : World) (e : Ending) (w' : World) : Prop :=
 ∃ v, e = .returned (.tuple #[v, .int .i64 (goB o), .int .i64 (nE o)]) ∧ Txts w' v (goN o) ∧ Below w.heap.size w w'
theorem rname_any (m : List UInt8) (a : Nat) (w : World) (hl : m.length ≤ 4000000) : Calls prog 262 #[.string (bs m), .int .i64 a] w (NmRet (pget m a) w) := by
 have G := Hh (get_any m a w hl)
 generalize pget m a = o at *
 have hE : Hid (nE o = if goE o = 1 then 5 else goE o) := Hh rfl
 unfold GetRet at G
 unfold NmRet
 generalize nE o = y at *
 generalize goE o = x at *
 generalize goB o = b at *
 go_enter func262, ntmps262
 go_wp2_with fail
 refine G.out.mono ?_
 rintro _ w1 ⟨v, rfl, hT, hB, _⟩
 by_cases hx : x = 1
 ·
  subst hx
  obtain rfl : y = 5 := by rw [hE.out]; rfl
  go_wp2_with fail
  go_ret3
  exact ⟨v, rfl, hT, hB⟩
 ·
  have hx' : (x == 1) = false := by simpa using hx
  obtain rfl : y = x := by rw [hE.out, if_neg hx]
  clear hx hE
  go_wp2_with fail
  go_ret3
  exact ⟨v, rfl, hT, hB⟩
theorem rname_ok {m : List UInt8} {a : Nat} {l : List (List UInt8)} {n : Nat} (h : pget m a = .ok l n) (w : World) (hl : m.length ≤ 4000000) :
  Calls prog 262 #[.string (bs m), .int .i64 a] w (fun e w' => ∃ v, e = .returned (.tuple #[v, .int .i64 (n : Int), .int .i64 0]) ∧ Txts w' v l ∧ Below w.heap.size w w') := by
 have := rname_any m a w hl
 rw [h] at this
 exact this
theorem rname_no {m : List UInt8} {a : Nat} {x : Int} (h : pget m a = .err x) (w : World) (hl : m.length ≤ 4000000) :
  Calls prog 262 #[.string (bs m), .int .i64 a] w (fun e w' => ∃ v, e = .returned (.tuple #[v, .int .i64 0, .int .i64 (if x = 1 then 5 else x)]) ∧ Txts w' v [] ∧ Below w.heap.size w w') := by
 have := rname_any m a w hl
 rw [h] at this
 exact this
def TgRet (g : Nat) (L : List Value) (o : Except Int (List (List UInt8))) (w : World) (e : Ending) (w' : World) : Prop :=
 match o with
 | .error x => x ≠ 0 ∧ e = .returned (.int .i64 x) ∧ Blk w' g 119 L ∧ w.grownBy w' (some g)
 | .ok l => ∃ v, e = .returned (.int .i64 0) ∧ Blk w' g 119 (L.set 22 v) ∧ NmO w' v l ∧ w.grownBy w' (some g)
theorem getTarget_any (g : Nat) (L : List Value) (s : List UInt8) (a : Nat) (w : World) (hb : Blk w g 119 L) (hl : L.length = 33) (hs : s.length ≤ 4000000) :
  Calls prog 257 #[.pointer (some ⟨g, 0, none⟩), .string (bs s), .int .i64 a] w (TgRet g L (targAt s a) w) := by
 have hg := hb.lt
 rcases nameE_cases s a with ⟨l, n, h1, h2, h3, h4, h5⟩ | ⟨x, h1, h2, h3, h4⟩
 ·
  have N := Hh (rname_ok h1 w hs)
  unfold targAt
  rw [h2]
  clear h1 h2
  by_cases hn : n = s.length
  ·
   subst hn
   simp only [if_true]
   go_enter func257, ntmps257
   go_wp2_with fail
   refine N.out.mono ?_
   rintro _ w1 ⟨v, rfl, hT, hB⟩
   have B1 := hb.below hB hg
   obtain ⟨A, c, hv, -, -⟩ := hT.form
   subst hv
   clear N hs
   go_wp2_with (refine at_op (.store 26 (.tmp 27) (.tmp 25)) rfl ?_; go_must (refine wpList_stC rfl 26 (.tmp 27) (.tmp 25) rfl g 22 rfl _ rfl B1 (by omega) nameInfo1 rfl rfl ?_))
   intro w2 hb2 hg2 hs2
   have hT2 := NmO.mk' (hT.grown hg2 B1 (by decide)) h4 h5
   clear hT
   go_wp2_with fail
   go_ret
   exact ⟨_, rfl, hb2, hT2, grown_trans (grown_of_below hB _) hg2 (.inl rfl)⟩
  ·
   have hn' : ((n : Int) != (s.length : Int)) = true := by simp; omega
   simp only [hn, if_false]
   clear hn h3
   go_enter func257, ntmps257
   go_wp2_with fail
   refine N.out.mono ?_
   rintro _ w1 ⟨v, rfl, hT, hB⟩
   go_wp2_with fail
   go_ret
   exact ⟨by decide, rfl, hb.below hB hg, grown_of_below hB _⟩
 ·
  have N := Hh (rname_no h1 w hs)
  unfold targAt
  rw [h2]
  generalize (if x = 1 then 5 else x) = y at *
  have hy := h4.nz
  clear h1 h2 h3
  go_enter func257, ntmps257
  go_wp2_with fail
  refine N.out.mono ?_
  rintro _ w1 ⟨v, rfl, hT, hB⟩
  go_wp2_with fail
  go_ret
  exact ⟨h4.ne, rfl, hb.below hB hg, grown_of_below hB _⟩
theorem grown_setRow {a w : World} {g : Nat} (h : a.grownBy w (some g)) (ds : Array Value) : a.grownBy (w.setRow g ds) (some g) :=
 grown_trans h ⟨rfl, rfl, rfl, by simp, fun k hk hne => setRow_other _ _ _ _ (fun e => hne (by rw [e]))⟩ (.inl rfl)
theorem wpList_cpyS (w : World) {ops : Array Oper} {rest : List Oper} {o : Oper} {a : Act} {Q : Exit → Act → World → Prop} (hgd : o.guard = none) (d x : Operand)
  (ho : o.op = .call { callee := .builtin .copy, args := #[d, x], argTypes := #[145, 9] }) (g off len cap : Nat) (hd : a.eval d = .slice (some ⟨g, off, none⟩) len cap) (s : List UInt8) (hx : a.eval x = .string (bs s))
  {t : TypeId} {L : List Value} (hb : Blk w g t L) (hle : s.length ≤ len) (hfit : off + s.length ≤ L.length)
  (h : ∀ w', Blk w' g t (L.take off ++ octs s ++ L.drop (off + s.length)) → w.grownBy w' (some g) → wpList prog ops Q rest (a.put o.dst (.int .i64 s.length)) w') : wpList prog ops Q (o :: rest) a w := by
 refine wpList_plain hgd fun K hK => ?_
 have hr := Lib.run_copy_row_string (P := prog) w 145 9 o.type 5 g off len cap (bs s) L.toArray t underlying145 byteSize hb (by simpa using hle) (by simpa using hfit)
 have e : Lib.byteCells (bs s).data.toList = octs s := by simp [bs, Lib.byteCells, octs]
 rw [e, bs_size] at hr
 unfold Oper.wp execOp
 simp only [ho, resolve, invoke, builtin, Sem.run_bind, Sem.run_pure, Result.andThen_ok, List.map_toArray, List.map_cons, List.map_nil, hd, hx, hr]
 exact hK _ _ (h _ (setRow_blk hb _) (grown_setRow (World.grownBy.refl _ _) _))
def adR (fam : Int) (d : List UInt8) : RR := { RR.zero with ad := ⟨fam, d ++ List.replicate (16 - d.length) 0, 0⟩ }
theorem adR_cells (fam : Int) (d : List UInt8) (hd : d.length = 4 ∨ d.length = 16) :
  (rrZ.set 4 (.int .i64 fam)).take 5 ++ octs d ++ (rrZ.set 4 (.int .i64 fam)).drop (5 + d.length) = rrC nilS nilS nilS (adR fam d) := by
 rcases hd with hd | hd
 ·
  have : adR fam d = { RR.zero with ad := ⟨fam, d ++ List.replicate 12 0, 0⟩ } := by unfold adR; rw [hd]
  rw [this, hd]
  simp only [rrC, Adr.cells, octs_app, List.append_assoc, List.cons_append]
  rfl
 ·
  have : adR fam d = { RR.zero with ad := ⟨fam, d ++ List.replicate 0 0, 0⟩ } := by unfold adR; rw [hd]
  rw [this, hd]
  simp only [rrC, Adr.cells, octs_app, List.append_assoc, List.cons_append]
  rfl
def GaRet (g : Nat) (L : List Value) (w : World) (e : Ending) (w' : World) : Prop := e = .returned (.int .i64 0) ∧ Blk w' g 119 L ∧ w.grownBy w' (some g)
theorem getAddr_ok (g : Nat) (d : List UInt8) (fam : Int) (w : World) (hb : Blk w g 119 rrZ) (hd : d.length = 4 ∨ d.length = 16) :
  Calls prog 256 #[.pointer (some ⟨g, 0, none⟩), .string (bs d), .int .i64 d.length, .int .i64 fam] w (GaRet g (rrC nilS nilS nilS (adR fam d)) w) := by
 have hl := rrZ_len
 have RC := Hh (adR_cells fam d hd)
 have hd16 : d.length ≤ 16 := by omega
 generalize rrC nilS nilS nilS (adR fam d) = L1 at *
 generalize rrZ = L at *
 go_enter func256, ntmps256
 go_wp2_with (refine at_op (.store 3 (.tmp 17) (.tmp 14)) rfl ?_; go_must (refine wpList_stC rfl 3 (.tmp 17) (.tmp 14) rfl g 4 rfl _ rfl hb (by omega) intInfo1 rfl rfl ?_))
 intro w1 hb1 hg1 hs1
 have hl1 : (L.set 4 (.int .i64 fam)).length = 33 := by simpa using hl
 go_wp2_with (refine at_op (.call { callee := .builtin .copy, args := #[.tmp 22, .tmp 23], argTypes := #[145, 9] }) rfl ?_; go_must (refine wpList_cpyS _ rfl (.tmp 22) (.tmp 23) rfl g 5 16 16 rfl d rfl hb1 hd16 (by omega) ?_))
 intro w2 hb2 hg2
 rw [← List.append_assoc, RC.out] at hb2
 go_wp2_with fail
 go_ret
 exact ⟨rfl, hb2, grown_trans hg1 hg2 (.inl rfl)⟩
theorem getAddr_no (g : Nat) (d : List UInt8) (wd : Nat) (fam : Int) (w : World) (hd : d.length ≠ wd) :
  Calls prog 256 #[.pointer (some ⟨g, 0, none⟩), .string (bs d), .int .i64 wd, .int .i64 fam] w (Ret (.int .i64 5) w) := by
 have hd' : ((d.length : Int) != (wd : Int)) = true := by simp; omega
 clear hd
 go_enter func256, ntmps256
 go_wp2_with fail
 go_ret
 exact Ret.mk rfl rfl
theorem srv_short (l : List UInt8) (h : l.length < 6) : takeS (takeR (takeR l false 2) (takeS l false 2) 2) (takeS (takeR l false 2) (takeS l false 2) 2) 2 = true := by
 by_cases h1 : l.length < 2
 ·
  simp [takeS, takeR, h1]
 ·
  by_cases h2 : l.length - 2 < 2
  ·
   simp [takeS, takeR, h1, h2]
  ·
   simp [takeS, takeR, h1, h2]; omega
theorem srv_long (l : List UInt8) (h : 6 ≤ l.length) : takeS l false 2 = false ∧ takeR l false 2 = l.drop 2 ∧ takeV l false 2 = l.take 2 ∧ takeS (l.drop 2) false 2 = false ∧ takeR (l.drop 2) false 2 = l.drop 4 ∧ takeV (l.drop 2) false 2 = (l.drop 2).take 2 ∧ takeS (l.drop 4) false 2 = false ∧ takeR (l.drop 4) false 2 = l.drop 6 ∧ takeV (l.drop 4) false 2 = (l.drop 4).take 2 := by
 have h1 : ¬ l.length < 2 := by omega
 have h2 : ¬ l.length - 2 < 2 := by omega
 have h3 : ¬ l.length - 4 < 2 := by omega
 simp [takeS, takeR, takeV, h1, h2, h3]
theorem takeR_len (l : List UInt8) (b : Bool) (n : Int) : (takeR l b n).length ≤ l.length := by unfold takeR; split <;> simp
def srvL (L : List Value) (a b c : Int) : List Value := ((L.set 24 (.int .i64 a)).set 25 (.int .i64 b)).set 26 (.int .i64 c)
structure Nxt (d : List UInt8) (sh : Bool) (n : Nat) (d' : List UInt8) (sh' : Bool) : Prop where
 hn : n = numB (takeV d sh 2)
 hd : d' = takeR d sh 2
 hs : sh' = takeS d sh 2
theorem num_nxt (gy : Nat) (d : List UInt8) (sh : Bool) (w : World) (h : EyeAt w gy d sh) (hm : d.length ≤ maxLen) :
  Calls prog 177 #[.pointer (some ⟨gy, 0, none⟩), .int .i64 2] w (fun e w' => ∃ n d' sh', e = .returned (.int .i64 (n : Nat)) ∧ Hid (Nxt d sh n d' sh') ∧ Hid (d'.length ≤ maxLen) ∧ EyeAt w' gy d' sh' ∧ w.grownBy w' (some gy)) := by
 refine (num_any gy d sh 2 w h hm).mono ?_
 rintro _ w' ⟨rfl, h1, h2⟩
 exact ⟨_, _, _, rfl, Hh ⟨rfl, rfl, rfl⟩, Hh (Nat.le_trans (takeR_len _ _ _) hm), h1, h2⟩
set_option maxHeartbeats 1000000 in
theorem getSRV_short (g : Nat) (L : List Value) (s : List UInt8) (a : Nat) (w : World) (hb : Blk w g 119 L) (hl : L.length = 33) (ha : a ≤ s.length) (hn : s.length < a + 6) (hs0 : s.length ≤ 4000000) :
  Calls prog 258 #[.pointer (some ⟨g, 0, none⟩), .string (bs s), .int .i64 a] w (fun e w' => e = .returned (.int .i64 5) ∧ w.grownBy w' (some g)) := by
 have E := Hh (srv_short (s.drop a) (by simp; omega))
 have hgl := hb.lt
 have ha' : (a : Int) ≤ s.length := by omega
 have hm : (s.drop a).length ≤ maxLen := by simp [maxLen]; omega
 have hs := Hh hs0
 clear hs0
 go_enter func258, ntmps258
 go_wp2_with fail
 refine (new_any (s.drop a) w).mono ?_
 rintro _ w1 ⟨rfl, e1, b1⟩
 have B1 := hb.below b1 hb.lt
 have G1 := grown_of_below b1 (some g)
 have hgn : w.heap.size ≠ g := by omega
 obtain ⟨gy, hgy⟩ : ∃ gy, gy = w.heap.size := ⟨_, rfl⟩
 rw [← hgy] at e1 hgn ⊢
 replace hgy : w.heap.size ≤ gy := by omega
 generalize hd0 : s.drop a = d0 at *
 have HD := Hh hd0
 clear hd0
 have HM := Hh hm
 clear hm
 go_wp2_with fail
 refine (num_nxt gy d0 false w1 e1 HM.out).mono ?_
 rintro _ w2 ⟨n1, d1, s1, rfl, x1, m1, e2, g2⟩
 have B2 := B1.grown g2 (by simpa using hgn.symm)
 have G2 := grown_trans G1 g2 (.inr (fun k hk => by injection hk with hk; omega))
 clear e1 b1 B1 G1 g2
 go_wp2_with fail
 refine (num_nxt gy d1 s1 w2 e2 m1.out).mono ?_
 rintro _ w3 ⟨n2, d2, s2, rfl, x2, m2, e3, g3⟩
 have B3 := B2.grown g3 (by simpa using hgn.symm)
 have G3 := grown_trans G2 g3 (.inr (fun k hk => by injection hk with hk; omega))
 clear e2 B2 G2 g3
 go_wp2_with fail
 refine (num_nxt gy d2 s2 w3 e3 m2.out).mono ?_
 rintro _ w4 ⟨n3, d3, s3, rfl, x3, m3, e4, g4⟩
 have B4 := B3.grown g4 (by simpa using hgn.symm)
 have G4 := grown_trans G3 g4 (.inr (fun k hk => by injection hk with hk; omega))
 clear e3 B3 G3 g4
 obtain rfl : s3 = true := by rw [x3.out.hs, x2.out.hd, x2.out.hs, x1.out.hd, x1.out.hs]; exact E.out
 clear E x1 x2 x3
 go_wp2_with (refine at_op (.store 3 (.tmp 22) (.tmp 16)) rfl ?_; go_must (refine wpList_stC rfl 3 (.tmp 22) (.tmp 16) rfl g 24 rfl _ rfl B4 (by omega) intInfo1 rfl rfl ?_))
 intro w5 B5 g5 _
 have E5 := e4.grown g5 (by simpa using hgn)
 have G5 := grown_trans G4 g5 (.inl rfl)
 clear B4 G4 g5 e4
 go_wp2_with (refine at_op (.store 3 (.tmp 24) (.tmp 18)) rfl ?_; go_must (refine wpList_stC rfl 3 (.tmp 24) (.tmp 18) rfl g 25 rfl _ rfl B5 (by simp only [List.length_set]; omega) intInfo1 rfl rfl ?_))
 intro w6 B6 g6 _
 have E6 := E5.grown g6 (by simpa using hgn)
 have G6 := grown_trans G5 g6 (.inl rfl)
 clear B5 G5 g6 E5
 go_wp2_with (refine at_op (.store 3 (.tmp 26) (.tmp 20)) rfl ?_; go_must (refine wpList_stC rfl 3 (.tmp 26) (.tmp 20) rfl g 26 rfl _ rfl B6 (by simp only [List.length_set]; omega) intInfo1 rfl rfl ?_))
 intro w7 B7 g7 _
 have E7 := E6.grown g7 (by simpa using hgn)
 have G7 := grown_trans G6 g7 (.inl rfl)
 clear B6 G6 g7 E6
 go_wp2_with fail
 refine (err_any gy d3 true w7 E7).mono ?_
 rintro _ w8 ⟨rfl, rfl⟩
 simp only [if_true]
 go_wp2_with fail
 go_ret
 exact ⟨rfl, G7⟩
set_option maxHeartbeats 1000000 in
theorem getSRV_long (g : Nat) (L : List Value) (s : List UInt8) (a : Nat) (w : World) (hb : Blk w g 119 L) (hl : L.length = 33) (ha : a ≤ s.length) (hn : a + 6 ≤ s.length) (hs0 : s.length ≤ 4000000) :
  Calls prog 258 #[.pointer (some ⟨g, 0, none⟩), .string (bs s), .int .i64 a] w (fun e w' => ∃ w1, w.grownBy w1 (some g) ∧ TgRet g (srvL L (numB ((s.drop a).take 2)) (numB (((s.drop a).drop 2).take 2)) (numB (((s.drop a).drop 4).take 2))) (targAt s (a + 6)) w1 e w') := by
 have E := Hh (srv_long (s.drop a) (by simp; omega))
 have hdl : ((s.drop a).drop 6).length = s.length - (a + 6) := by rw [List.drop_drop, List.length_drop]
 have hgl := hb.lt
 have ha' : (a : Int) ≤ s.length := by omega
 have hm : (s.drop a).length ≤ maxLen := by simp [maxLen]; omega
 have hs := Hh hs0
 clear hs0
 go_enter func258, ntmps258
 go_wp2_with fail
 refine (new_any (s.drop a) w).mono ?_
 rintro _ w1 ⟨rfl, e1, b1⟩
 have B1 := hb.below b1 hb.lt
 have G1 := grown_of_below b1 (some g)
 have hgn : w.heap.size ≠ g := by omega
 obtain ⟨gy, hgy⟩ : ∃ gy, gy = w.heap.size := ⟨_, rfl⟩
 rw [← hgy] at e1 hgn ⊢
 replace hgy : w.heap.size ≤ gy := by omega
 generalize hd0 : s.drop a = d0 at *
 have HD := Hh hd0
 clear hd0
 have HM := Hh hm
 clear hm
 go_wp2_with fail
 refine (num_nxt gy d0 false w1 e1 HM.out).mono ?_
 rintro _ w2 ⟨n1, d1, s1, rfl, x1, m1, e2, g2⟩
 have B2 := B1.grown g2 (by simpa using hgn.symm)
 have G2 := grown_trans G1 g2 (.inr (fun k hk => by injection hk with hk; omega))
 clear e1 b1 B1 G1 g2
 go_wp2_with fail
 refine (num_nxt gy d1 s1 w2 e2 m1.out).mono ?_
 rintro _ w3 ⟨n2, d2, s2, rfl, x2, m2, e3, g3⟩
 have B3 := B2.grown g3 (by simpa using hgn.symm)
 have G3 := grown_trans G2 g3 (.inr (fun k hk => by injection hk with hk; omega))
 clear e2 B2 G2 g3
 go_wp2_with fail
 refine (num_nxt gy d2 s2 w3 e3 m2.out).mono ?_
 rintro _ w4 ⟨n3, d3, s3, rfl, x3, m3, e4, g4⟩
 have B4 := B3.grown g4 (by simpa using hgn.symm)
 have G4 := grown_trans G3 g4 (.inr (fun k hk => by injection hk with hk; omega))
 clear e3 B3 G3 g4
 obtain ⟨h1, h2, h3, h4, h5, h6, h7, h8, h9⟩ := E.out
 obtain rfl : s1 = false := by rw [x1.out.hs]; exact h1
 obtain rfl : d1 = d0.drop 2 := by rw [x1.out.hd]; exact h2
 obtain rfl : s2 = false := by rw [x2.out.hs]; exact h4
 obtain rfl : d2 = d0.drop 4 := by rw [x2.out.hd]; exact h5
 obtain rfl : s3 = false := by rw [x3.out.hs]; exact h7
 have hd3 : d3 = d0.drop 6 := by rw [x3.out.hd]; exact h8
 have q1 := x1.out.hn
 have q2 := x2.out.hn
 have q3 := x3.out.hn
 rw [h3] at q1
 rw [h6] at q2
 rw [h9] at q3
 rw [← hd3] at hdl
 have Q1 := Hh q1
 have Q2 := Hh q2
 have Q3 := Hh q3
 clear E x1 x2 x3 h1 h2 h3 h4 h5 h6 h7 h8 h9 q1 q2 q3 hd3
 go_wp2_with (refine at_op (.store 3 (.tmp 22) (.tmp 16)) rfl ?_; go_must (refine wpList_stC rfl 3 (.tmp 22) (.tmp 16) rfl g 24 rfl _ rfl B4 (by omega) intInfo1 rfl rfl ?_))
 intro w5 B5 g5 _
 have E5 := e4.grown g5 (by simpa using hgn)
 have G5 := grown_trans G4 g5 (.inl rfl)
 clear B4 G4 g5 e4
 go_wp2_with (refine at_op (.store 3 (.tmp 24) (.tmp 18)) rfl ?_; go_must (refine wpList_stC rfl 3 (.tmp 24) (.tmp 18) rfl g 25 rfl _ rfl B5 (by simp only [List.length_set]; omega) intInfo1 rfl rfl ?_))
 intro w6 B6 g6 _
 have E6 := E5.grown g6 (by simpa using hgn)
 have G6 := grown_trans G5 g6 (.inl rfl)
 clear B5 G5 g6 E5
 go_wp2_with (refine at_op (.store 3 (.tmp 26) (.tmp 20)) rfl ?_; go_must (refine wpList_stC rfl 3 (.tmp 26) (.tmp 20) rfl g 26 rfl _ rfl B6 (by simp only [List.length_set]; omega) intInfo1 rfl rfl ?_))
 intro w7 B7 g7 _
 have E7 := E6.grown g7 (by simpa using hgn)
 have G7 := grown_trans G6 g7 (.inl rfl)
 clear B6 G6 g7 E6
 replace B7 : Blk w7 g 119 (srvL L n1 n2 n3) := B7
 have hsl : (srvL L n1 n2 n3).length = 33 := by simpa [srvL] using hl
 have T := Hh (getTarget_any g (srvL L n1 n2 n3) s (a + 6) w7 B7 hsl hs.out)
 have hla : Hid (wrap64 ((s.length : Int) - (d3.length : Int)) = ((a + 6 : Nat) : Int)) := Hh (by have := hs.out; rw [IntWalk.wrap64_in _ (by omega)]; omega)
 clear hdl
 go_wp2_with fail
 refine (err_any gy d3 false w7 E7).mono ?_
 rintro _ w8 ⟨rfl, rfl⟩
 go_wp2_with fail
 refine (left_any gy d3 false w7 E7).mono ?_
 rintro _ w8 ⟨rfl, rfl⟩
 cases ht : targAt s (a + 6) with
 | error x =>
  rw [ht] at T
  go_wp2_with fail
  rw [hla.out]
  refine T.out.mono ?_
  rintro _ w8 ⟨hx, rfl, hT⟩
  go_wp2_with fail
  go_ret
  refine ⟨w7, G7, ?_⟩
  rw [HD.out, ← Q1.out, ← Q2.out, ← Q3.out, ht]
  exact ⟨hx, rfl, hT⟩
 | ok l =>
  rw [ht] at T
  go_wp2_with fail
  rw [hla.out]
  refine T.out.mono ?_
  rintro _ w8 ⟨v, rfl, hT⟩
  go_wp2_with fail
  go_ret
  refine ⟨w7, G7, ?_⟩
  rw [HD.out, ← Q1.out, ← Q2.out, ← Q3.out, ht]
  exact ⟨v, rfl, hT⟩
def eyeK (d : List UInt8) : Nat → List UInt8 × Bool
 | 0 => (d, false)
 | k + 1 => (takeR (eyeK d k).1 (eyeK d k).2 4, takeS (eyeK d k).1 (eyeK d k).2 4)
def eyeN (d : List UInt8) (k : Nat) : Int := numB (takeV (eyeK d k).1 (eyeK d k).2 4)
theorem eyeK_len (d : List UInt8) : ∀ k, (eyeK d k).1.length ≤ d.length
 | 0 => Nat.le_refl _
 | k + 1 => Nat.le_trans (takeR_len _ _ _) (eyeK_len d k)
def soaL (d : List UInt8) (L : List Value) (k : Nat) : List Value := L.take 27 ++ ints64 ((List.range k).map (eyeN d)) ++ L.drop (27 + k)
theorem soaL_len (d : List UInt8) (L : List Value) (k : Nat) (hl : L.length = 33) (hk : k ≤ 5) : (soaL d L k).length = 33 := by
 simp [soaL, ints64, hl]; omega
theorem soaL_zero (d : List UInt8) (L : List Value) : soaL d L 0 = L := by simp [soaL, ints64]
theorem soaL_step (d : List UInt8) (L : List Value) (k : Nat) (hl : L.length = 33) (hk : k < 5) : (soaL d L k).set (27 + k) (.int .i64 (eyeN d k)) = soaL d L (k + 1) := by
 have h1 : (L.take 27).length = 27 := by simp [hl]
 have h2 : (ints64 ((List.range k).map (eyeN d))).length = k := by simp [ints64]
 have h3 : L.drop (27 + k) = L[27 + k]'(by omega) :: L.drop (27 + (k + 1)) := by rw [List.drop_eq_getElem_cons (by omega)]; rfl
 unfold soaL
 rw [List.append_assoc, List.set_append_right (h := by omega), h1, Nat.add_sub_cancel_left, List.set_append_right (h := by omega), h2, Nat.sub_self, h3, List.set_cons_zero]
 simp [ints64, List.range_succ, List.append_assoc]
theorem eye_good (d : List UInt8) (hd : d.length = 20) : ∀ k, k ≤ 5 → eyeK d k = (d.drop (4 * k), false)
 | 0, _ => rfl
 | k + 1, hk => by
  rw [eyeK, eye_good d hd k (by omega)]
  have h : ¬ (d.drop (4 * k)).length < 4 := by simp; omega
  simp [takeR, takeS, h, Nat.mul_succ]
  omega
theorem eyeN_good (d : List UInt8) (hd : d.length = 20) (k : Nat) (hk : k < 5) : eyeN d k = numB ((d.drop (4 * k)).take 4) := by
 unfold eyeN
 rw [eye_good d hd k (by omega)]
 have h : ¬ (d.length - 4 * k) < 4 := by omega
 simp [takeV, h]
theorem end_good (d : List UInt8) (hd : d.length = 20) : endV (eyeK d 5).1 (eyeK d 5).2 = 0 := by
 rw [eye_good d hd 5 (by omega)]
 have : d.drop 20 = [] := List.drop_of_length_le (by omega)
 simp [endV, this]
theorem eye_left (d : List UInt8) : ∀ k, (eyeK d k).2 = true ∨ ((eyeK d k).2 = false ∧ (eyeK d k).1.length + 4 * k = d.length)
 | 0 => .inr ⟨rfl, by simp [eyeK]⟩
 | k + 1 => by
  rcases eye_left d k with h | ⟨h, hl⟩
  ·
   exact .inl (by simp [eyeK, takeS, h])
  ·
   by_cases h4 : (eyeK d k).1.length < 4
   ·
    exact .inl (by simp [eyeK, takeS, h4])
   ·
    refine .inr ⟨by simp [eyeK, takeS, h, h4], ?_⟩
    simp [eyeK, takeR, h, h4]; omega
theorem end_bad (d : List UInt8) (hd : d.length ≠ 20) : endV (eyeK d 5).1 (eyeK d 5).2 ≠ 0 := by
 unfold endV
 rcases eye_left d 5 with h | ⟨h, hl⟩
 ·
  simp [h]
 ·
  have : (eyeK d 5).1 ≠ [] := by intro e; rw [e] at hl; simp at hl; omega
  simp [h, this]
theorem nums_good (s : List UInt8) (p : Nat) (h : p + 20 = s.length) : (List.range 5).map (eyeN (s.drop p)) = numsAt s p := by
 have hd : (s.drop p).length = 20 := by simp; omega
 have e : ∀ k, k < 5 → eyeN (s.drop p) k = numB ((s.drop (p + 4 * k)).take 4) := fun k hk => by rw [eyeN_good _ hd k hk, List.drop_drop]
 simp only [List.range, List.range.loop, List.map_cons, List.map_nil]
 rw [e 0 (by omega), e 1 (by omega), e 2 (by omega), e 3 (by omega), e 4 (by omega)]
 rfl
def SoaRet (g : Nat) (s : List UInt8) (a : Nat) (w : World) (e : Ending) (w' : World) : Prop :=
 match nameE s a with
 | .error x => x ≠ 0 ∧ e = .returned (.int .i64 x) ∧ w.grownBy w' (some g)
 | .ok (l, p) => match nameE s p with
  | .error x => x ≠ 0 ∧ e = .returned (.int .i64 x) ∧ w.grownBy w' (some g)
  | .ok (l', q) => if q + 20 = s.length then ∃ v v', e = .returned (.int .i64 0) ∧ Blk w' g 119 (rrC nilS v v' { RR.zero with tg := l, ml := l', nums := numsAt s q }) ∧ NmO w' v l ∧ NmO w' v' l' ∧ w.grownBy w' (some g)
   else e = .returned (.int .i64 5) ∧ w.grownBy w' (some g)
theorem soa_cells (v v' : Value) (d : List UInt8) (r : RR) (hr : r = { RR.zero with nums := (List.range 5).map (eyeN d) }) : ((soaL d rrZ 5).set 22 v).set 23 v' = rrC nilS v v' r := by subst hr; rfl
set_option maxHeartbeats 4000000 in
theorem getSOA_any (g : Nat) (s : List UInt8) (a : Nat) (w : World) (hb : Blk w g 119 rrZ) (ha : a ≤ s.length) (hs : s.length ≤ 4000000) :
  Calls prog 259 #[.pointer (some ⟨g, 0, none⟩), .string (bs s), .int .i64 a] w (SoaRet g s a w) := by
 have hgl := hb.lt
 have hl : rrZ.length = 33 := rrZ_len
 rcases nameE_cases s a with ⟨l, p, h1, h2, h3, h4, h5⟩ | ⟨x, h1, h2, h3, h4⟩
 case inr =>
  have N := Hh (rname_no h1 w hs)
  have FIN : Hid (∀ w', Below w.heap.size w w' → SoaRet g s a w (.returned (.int .i64 (if x = 1 then 5 else x))) w') := Hh (fun w' hB => by unfold SoaRet; rw [h2]; exact ⟨h4.ne, rfl, grown_of_below hB _⟩)
  generalize (if x = 1 then 5 else x) = y at *
  have hy := h4.nz
  clear h1 h2 h3 hb
  go_enter func259, ntmps259
  go_wp2_with fail
  refine N.out.mono ?_
  rintro _ w1 ⟨v, rfl, hT, hB⟩
  go_wp2_with fail
  go_ret
  exact FIN.out _ hB
 have N := Hh (rname_ok h1 w hs)
 rcases nameE_cases s p with ⟨l', q, k1, k2, k3, k4, k5⟩ | ⟨x, k1, k2, k3, k4⟩
 case inr =>
  have M := Hh (fun w => rname_no k1 w hs)
  have FIN : Hid (∀ w', Below w.heap.size w w' → SoaRet g s a w (.returned (.int .i64 (if x = 1 then 5 else x))) w') := Hh (fun w' hB => by unfold SoaRet; rw [h2]; simp only; rw [k2]; exact ⟨k4.ne, rfl, grown_of_below hB _⟩)
  generalize (if x = 1 then 5 else x) = y at *
  have hy := k4.nz
  clear h1 h2 h3 k1 k2 k3 hb
  go_enter func259, ntmps259
  go_wp2_with fail
  refine N.out.mono ?_
  rintro _ w1 ⟨v, rfl, hT, hB⟩
  go_wp2_with fail
  refine (M.out _).mono ?_
  rintro _ w2 ⟨v', rfl, hT', hB'⟩
  go_wp2_with fail
  go_ret
  exact FIN.out _ (below_then hB hB.size hB')
 have M := Hh (fun w => rname_ok k1 w hs)
 have FB : Hid (q + 20 ≠ s.length → ∀ w', w.grownBy w' (some g) → SoaRet g s a w (.returned (.int .i64 5)) w') := Hh (fun hq w' hB => by unfold SoaRet; rw [h2]; simp only; rw [k2]; simp only; rw [if_neg hq]; exact ⟨trivial, hB⟩)
 have FG : Hid (q + 20 = s.length → ∀ w' v v', Blk w' g 119 (((soaL (s.drop q) rrZ 5).set 22 v).set 23 v') → NmO w' v l → NmO w' v' l' → w.grownBy w' (some g) → SoaRet g s a w (.returned (.int .i64 0)) w') := Hh (fun hq w' v v' hb n1 n2 hB => by
  unfold SoaRet; rw [h2]; simp only; rw [k2]; simp only; rw [if_pos hq]
  rw [soa_cells v v' _ _ rfl, nums_good s q hq] at hb
  exact ⟨v, v', trivial, hb, n1, n2, hB⟩)
 have hq' : (q : Int) ≤ s.length := by omega
 have hdl : (s.drop q).length ≤ maxLen := by simp [maxLen]; omega
 have hdq : (s.drop q).length = 20 ↔ q + 20 = s.length := by simp; omega
 clear h1 h2 h3 k1 k2 k3
 go_enter func259, ntmps259
 go_wp2_with fail
 refine N.out.mono ?_
 rintro _ w1 ⟨v, rfl, hT, hB⟩
 have B1 := hb.below hB hgl
 have X1 := NmO.mk' hT h4 h5
 obtain ⟨A, c, hv, -⟩ := X1.form
 clear N hT
 go_wp2_with fail
 refine (M.out _).mono ?_
 rintro _ w2 ⟨v', rfl, hT', hB'⟩
 have B2 := B1.below hB' B1.lt
 have X2 := NmO.mk' hT' k4 k5
 replace X1 := X1.stays (Stays.below hB')
 have HB2 := below_then hB hB.size hB'
 obtain ⟨A', c', hv', -⟩ := X2.form
 subst hv
 subst hv'
 clear M hT' hB hB' B1
 go_wp2_with fail
 refine (new_any (s.drop q) w2).mono ?_
 rintro _ w3 ⟨rfl, e3, b3⟩
 have B3 := B2.below b3 B2.lt
 replace X1 := X1.stays (Stays.below b3)
 replace X2 := X2.stays (Stays.below b3)
 have G3 : w.grownBy w3 (some g) := grown_of_below (below_then HB2 HB2.size b3) _
 have hgy : w.heap.size ≤ w2.heap.size := HB2.size
 have hgn : w2.heap.size ≠ g := by omega
 generalize w2.heap.size = gy at *
 generalize s.drop q = d at *
 clear B2 HB2 b3
 go_wp2_with fail
 go_loopw [36] (fun iv wr => ∃ k : Nat, k ≤ 5 ∧ iv = .int .i64 k ∧ EyeAt wr gy (eyeK d k).1 (eyeK d k).2 ∧ Blk wr g 119 (soaL d rrZ k) ∧ w.grownBy wr (some g) ∧ Stays w3 wr) (fun iv _ => 5 - (intOf iv).toNat)
 case atStart => exact ⟨0, by omega, rfl, e3, by rw [soaL_zero]; exact B3, G3, Stays.refl _⟩
 clear e3 B3 G3
 obtain ⟨k, hk, rfl, Er, Br, Gr, Sr⟩ := hrel
 by_cases hlt : k < 5
 case pos =>
  have hlt' : (k : Int) < 5 := by omega
  have hk0 : (0 : Int) ≤ k := by omega
  have NN := Hh (fun w' (h : EyeAt w' gy (eyeK d k).1 (eyeK d k).2) => num_any gy _ _ 4 w' h (Nat.le_trans (eyeK_len d k) hdl))
  rw [show ((hw 4 : Nat) : Int) = 4 from rfl] at NN
  have SL := Hh (soaL_step d rrZ k hl hlt)
  have Sl := soaL_len d rrZ k hl hk
  change Hid (∀ w', _ → Calls prog _ _ w' (EyeRet (.int .i64 (eyeN d k)) gy (eyeK d (k + 1)).1 (eyeK d (k + 1)).2 w')) at NN
  generalize eyeN d k = nk at *
  go_wp2_with fail
  refine wp_region_held_drew (S := fun _ => True) (by kernel_rfl) trivial (fun hS => ?_)
  (refine held_val 0 (some 39) rfl rfl (by kernel_rfl) (by kernel_rfl) (by kernel_rfl) (fun _ _ _ h => h) (by kernel_rfl) (fun W hW => rfl) hS ?_; simp only [Act.put, lsA, lsB, lsC])
  (refine held_val 1 (some 40) rfl rfl (by kernel_rfl) (by kernel_rfl) (by kernel_rfl) (fun _ _ _ h => h) (by kernel_rfl) (fun W hW => rfl) hS ?_; simp only [Act.put, lsA, lsB, lsC])
  (refine held_val 2 (some 41) rfl rfl (by kernel_rfl) (by kernel_rfl) (by kernel_rfl) (fun _ _ _ h => h) (by kernel_rfl) (fun W hW => rfl) hS ?_; simp only [Act.put, lsA, lsB, lsC])
  (refine held_val 4 (some 43) rfl rfl (by kernel_rfl) (by kernel_rfl) (by kernel_rfl) (fun _ _ _ h => h) (by kernel_rfl) (fun W hW => rfl) hS ?_; simp only [Act.put, lsA, lsB, lsC])
  (refine held_val 5 (some 44) rfl rfl (by kernel_rfl) (by kernel_rfl) (by kernel_rfl) (fun _ _ _ h => h) (by kernel_rfl) (fun W hW => rfl) hS ?_; simp only [Act.put, lsA, lsB, lsC])
  refine ord_one 3 (by kernel_rfl) ?_
  refine opw_call 3 (some 42) 177 #[.pointer (some ⟨gy, 0, none⟩), .int .i64 4] rfl rfl (by kernel_rfl) (by go_simp) (NN.out _ Er.drew) ?_
  rintro _ w4 ⟨rfl, e4, g4⟩
  have B4 := (Br.drew).grown g4 (by simpa using hgn.symm)
  have G4 := grown_trans (grown_drew Gr) g4 (.inr (fun j hj => by injection hj with hj; omega))
  have S4 : Stays w3 w4 := Sr.trans ((Stays.below (Below.refl _ _).drew).trans (Stays.blk g4 Er.drew (by decide)))
  refine ⟨_, rfl, trivial, ?_⟩
  simp only [Act.put, lsA, lsB, lsC]
  refine held_val 6 (some 45) (v := .pointer (some ⟨g, 27 + k, none⟩)) rfl rfl (by kernel_rfl) (by kernel_rfl) (by kernel_rfl) (fun _ _ _ h => h) (by kernel_rfl) (fun W hW => by go_simp) hS ?_
  simp only [Act.put, lsA, lsB, lsC]
  refine ord_one 7 (by kernel_rfl) ?_
  refine opw_stC 7 3 (.tmp 45) (.tmp 42) rfl rfl rfl (by kernel_rfl) g (27 + k) rfl (.int .i64 nk) rfl B4 (by omega) intInfo1 rfl rfl ?_
  intro w5 B5 g5 _
  rw [SL.out] at B5
  have E5 := e4.grown g5 (by simpa using hgn)
  have G5 := grown_trans G4 g5 (.inl rfl)
  have S5 := S4.trans (Stays.blk g5 B4 (by decide))
  refine ⟨trivial, ?_⟩
  simp only [Act.put, lsA, lsB, lsC]
  refine wpAnyH_done (by kernel_rfl) ?_ _
  clear hS B4 G4 S4 e4 g4 g5 NN SL Sl Er Br Gr Sr
  go_wp2_with fail
  go_roundw
  case rel => exact ⟨k + 1, by omega, by go_num, E5, B5, G5, S5⟩
  case measure => simp [intOf]; omega
 obtain rfl : k = 5 := by omega
 replace X1 := X1.stays Sr
 replace X2 := X2.stays Sr
 clear hlt hk Sr
 have EN := Hh (end_any gy _ _ wr Er)
 by_cases hq : q + 20 = s.length
 ·
  rw [end_good d (hdq.2 hq)] at EN
  have Sl := soaL_len d rrZ 5 hl (by omega)
  go_wp2_with fail
  refine EN.out.mono ?_
  rintro _ w6 ⟨rfl, rfl⟩
  go_wp2_with (refine at_op (.store 26 (.tmp 55) (.tmp 52)) rfl ?_; go_must (refine wpList_stC rfl 26 (.tmp 55) (.tmp 52) rfl g 22 rfl _ rfl Br (by omega) nameInfo1 rfl rfl ?_))
  intro w7 B7 g7 _
  have Y1 := X1.stays (Stays.blk g7 Br (by decide))
  have Y2 := X2.stays (Stays.blk g7 Br (by decide))
  have G7 := grown_trans Gr g7 (.inl rfl)
  go_wp2_with (refine at_op (.store 26 (.tmp 57) (.tmp 53)) rfl ?_; go_must (refine wpList_stC rfl 26 (.tmp 57) (.tmp 53) rfl g 23 rfl _ rfl B7 (by simp only [List.length_set]; omega) nameInfo1 rfl rfl ?_))
  intro w8 B8 g8 _
  have Z1 := Y1.stays (Stays.blk g8 B7 (by decide))
  have Z2 := Y2.stays (Stays.blk g8 B7 (by decide))
  have G8 := grown_trans G7 g8 (.inl rfl)
  go_wp2_with fail
  go_ret
  exact FG.out hq _ _ _ B8 Z1 Z2 G8
 ·
  have hne := end_bad d (fun h => hq (hdq.1 h))
  generalize endV (eyeK d 5).1 (eyeK d 5).2 = ev at *
  have hev : (ev != 0) = true := by simpa using hne
  go_wp2_with fail
  refine EN.out.mono ?_
  rintro _ w6 ⟨rfl, rfl⟩
  go_wp2_with fail
  go_ret
  exact FB.out hq _ Gr
def GetR (o : Except Int RR) (w : World) (e : Ending) (w' : World) : Prop :=
 match o with
 | .error x => x ≠ 0 ∧ e = .returned (.tuple #[.agg rrZ.toArray, .int .i64 x]) ∧ Below w.heap.size w w'
 | .ok r => ∃ cs, e = .returned (.tuple #[.agg cs.toArray, .int .i64 0]) ∧ RRown w' cs r ∧ Below w.heap.size w w'
theorem rrZ_lit : rrZ.toArray = #[.slice none 0 0, .int .i64 0, .int .i64 0, .int .i64 0, .int .i64 0, .int .u8 0, .int .u8 0, .int .u8 0, .int .u8 0, .int .u8 0, .int .u8 0, .int .u8 0, .int .u8 0, .int .u8 0, .int .u8 0, .int .u8 0, .int .u8 0, .int .u8 0, .int .u8 0, .int .u8 0, .int .u8 0, .int .i64 0, .slice none 0 0, .slice none 0 0, .int .i64 0, .int .i64 0, .int .i64 0, .int .i64 0, .int .i64 0, .int .i64 0, .int .i64 0, .int .i64 0, .string ⟨#[]⟩] := rfl
theorem rrZ_one : ∀ v ∈ rrZ, v.oneCell' = true := rrC_one rfl rfl rfl
theorem rget_len {L : List Value} {r : RR} {vn vt vm : Value} (e : L = rrC vn vt vm r) (h : r.wf) : L.length = 33 := by rw [e]; exact rrC_len h
set_option maxHeartbeats 1000000 in
theorem rget_raw (m : List UInt8) (a n : Nat) (ty cl : Int) (w : World) (hm : a + n ≤ m.length) (hl : m.length ≤ 4000000) (hk : kindR ty cl = 0) :
  Calls prog 251 #[.string (bs m), .int .i64 a, .int .i64 n, .int .i64 ty, .int .i64 cl] w (GetR (.ok { RR.zero with raw := (m.take (a + n)).drop a }) w) := by
 have K := Hh (fun w => kindOf_any ty cl w)
 rw [hk] at K
 clear hk
 have k1 : (0 : Int) ≤ a := by omega
 have k2 : (0 : Int) ≤ n := by omega
 have k3 : (a : Int) ≤ m.length := by omega
 have k4 : (n : Int) ≤ (m.length : Int) - a := by omega
 have k5 : (a : Int) + n ≤ m.length := by omega
 have hs0 : ((a : Int) + n).toNat = a + n := by omega
 obtain ⟨z1, hz1⟩ : ∃ z1, z1 = w.alloc (.cells rrZ.toArray 119) := ⟨_, rfl⟩
 obtain ⟨W, hW⟩ : ∃ W, W = z1.alloc (.cells rrZ.toArray 119) := ⟨_, rfl⟩
 have B10 : Blk W w.heap.size 119 rrZ := by rw [hW, hz1]; exact (Blk.new w 119 rrZ).alloc _
 have B12 : Blk W (w.heap.size + 1) 119 rrZ := by rw [hW, hz1]; exact Blk.new' _ _ rrZ _ (by simp)
 have HB : Below w.heap.size w W := by rw [hW, hz1]; exact ((Below.refl _ _).alloc (Nat.le_refl _) _).alloc (by simp) _
 have HW : Hid ((w.alloc (.cells #[.slice none 0 0, .int .i64 0, .int .i64 0, .int .i64 0, .int .i64 0, .int .u8 0, .int .u8 0, .int .u8 0, .int .u8 0, .int .u8 0, .int .u8 0, .int .u8 0, .int .u8 0, .int .u8 0, .int .u8 0, .int .u8 0, .int .u8 0, .int .u8 0, .int .u8 0, .int .u8 0, .int .u8 0, .int .i64 0, .slice none 0 0, .slice none 0 0, .int .i64 0, .int .i64 0, .int .i64 0, .int .i64 0, .int .i64 0, .int .i64 0, .int .i64 0, .int .i64 0, .string ⟨#[]⟩] 119)).alloc (.cells #[.slice none 0 0, .int .i64 0, .int .i64 0, .int .i64 0, .int .i64 0, .int .u8 0, .int .u8 0, .int .u8 0, .int .u8 0, .int .u8 0, .int .u8 0, .int .u8 0, .int .u8 0, .int .u8 0, .int .u8 0, .int .u8 0, .int .u8 0, .int .u8 0, .int .u8 0, .int .u8 0, .int .u8 0, .int .i64 0, .slice none 0 0, .slice none 0 0, .int .i64 0, .int .i64 0, .int .i64 0, .int .i64 0, .int .i64 0, .int .i64 0, .int .i64 0, .int .i64 0, .string ⟨#[]⟩] 119) = W) := Hh (by rw [hW, hz1, rrZ_lit])
 have hWs : W.heap.size = w.heap.size + 1 + 1 := by rw [hW, hz1]; simp
 clear hW hz1
 go_enter func251, ntmps251
 go_wp2_with fail
 rw [HW.out]
 refine (K.out W).mono ?_
 rintro _ w1 ⟨rfl, rfl⟩
 clear K HW
 have hl33 : rrZ.length = 33 := rrZ_len
 go_wp2_with (refine at_op (.store 9 (.tmp 46) (.tmp 45)) rfl ?_; go_must (refine wpList_stC rfl 9 (.tmp 46) (.tmp 45) rfl (w.heap.size + 1) 32 rfl _ rfl B12 (by omega) strInfo1 rfl rfl ?_))
 intro w2 B2 g2 _
 have A2 := B10.grown g2 (by simp)
 have HB2 := below_grown HB g2 HB.size (by omega)
 rw [List.take_take, Nat.min_self] at B2
 clear B12 B10 HB g2
 obtain ⟨L, hL⟩ : ∃ L, L = rrZ.set 32 (.string (bs ((m.take (a + n)).drop a))) := ⟨_, rfl⟩
 rw [← hL] at B2
 replace hL : L = rrC nilS nilS nilS { RR.zero with raw := (m.take (a + n)).drop a } := hL
 have ll : L.length = 33 := rget_len hL ⟨rfl, rfl⟩
 have l1 : Hid (∀ v ∈ L, v.oneCell' = true) := Hh (by rw [hL]; exact rrC_one rfl rfl rfl)
 have OW : Hid (∀ w', Stays w2 w' → RRown w' L { RR.zero with raw := (m.take (a + n)).drop a }) := Hh (fun w' _ => ⟨nilS, nilS, nilS, hL, ⟨rfl, rfl⟩, NmO.nil _, NmO.nil _, NmO.nil _, by simp; omega⟩)
 clear hL
 go_wp2_with (first
  | (refine at_op (.load 119 (.tmp 12)) rfl ?_; go_must (refine wpList_ldB rfl _ _ rfl (w.heap.size + 1) 0 rfl B2 33 (by omega) _ underlying119 rfl rrInfo L (tk0 (by omega)) ?_))
  | (refine at_op (.store 119 (.tmp 10) (.tmp 79)) rfl ?_; go_must (refine wpList_stB rfl _ _ _ rfl w.heap.size 0 rfl L rfl A2 (by rw [rrZ_len]; omega) (by rw [ll]; exact rrInfo) l1.out ?_)))
 intro w3 hb3 hg3 _
 rw [List.drop_of_length_le (by rw [rrZ_len]; omega), List.append_nil] at hb3
 have S3 := Stays.blk hg3 A2 (by decide)
 have HB3 := below_grown HB2 hg3 HB2.size (Nat.le_refl _)
 clear hg3 A2 B2 HB2
 go_wp2_with fail
 refine ret_cell_tmp rfl w.heap.size rfl hb3 _ underlying119 rfl (by rw [ll]; exact rrInfo) rfl (.int .i64 0) rfl ?_
 exact ⟨L, rfl, OW.out _ S3, HB3⟩
set_option maxHeartbeats 1000000 in
theorem rget_adr (k : Nat) (fam : Int) (hkf : (k = 1 ∧ fam = 4) ∨ (k = 28 ∧ fam = 6)) (m : List UInt8) (a n : Nat) (ty cl : Int) (w : World) (hm : a + n ≤ m.length) (hl : m.length ≤ 4000000) (hk : kindR ty cl = k) (hn : n = if k = 1 then 4 else 16) :
  Calls prog 251 #[.string (bs m), .int .i64 a, .int .i64 n, .int .i64 ty, .int .i64 cl] w (GetR (.ok (adR fam ((m.take (a + n)).drop a))) w) := by
 have K := Hh (fun w => kindOf_any ty cl w)
 rw [hk] at K
 clear hk
 have hd : ((m.take (a + n)).drop a).length = n := by simp; omega
 have hd' : ((m.take (a + n)).drop a).length = 4 ∨ ((m.take (a + n)).drop a).length = 16 := by rw [hd, hn]; split <;> simp
 have GA := Hh (fun g w hb => getAddr_ok g ((m.take (a + n)).drop a) fam w hb hd')
 rw [hd] at GA
 have hwf : (adR fam ((m.take (a + n)).drop a)).wf := ⟨by simp only [adR, List.length_append, List.length_replicate]; omega, rfl⟩
 obtain ⟨L, hL⟩ : ∃ L, L = rrC nilS nilS nilS (adR fam ((m.take (a + n)).drop a)) := ⟨_, rfl⟩
 rw [← hL] at GA
 have ll : L.length = 33 := rget_len hL hwf
 have l1 : Hid (∀ v ∈ L, v.oneCell' = true) := Hh (by rw [hL]; exact rrC_one rfl rfl rfl)
 have OW' : Hid (∀ w', RRown w' L (adR fam ((m.take (a + n)).drop a))) := Hh (fun w' => ⟨nilS, nilS, nilS, hL, hwf, NmO.nil _, NmO.nil _, NmO.nil _, by simp [adR, RR.zero]⟩)
 generalize adR fam ((m.take (a + n)).drop a) = r at *
 have hl33 : rrZ.length = 33 := rrZ_len
 clear hL hd hd' hwf
 rcases hkf with ⟨rfl, rfl⟩ | ⟨rfl, rfl⟩
 case inl =>
  have hn4 : ((n : Nat) : Int) = 4 := by rw [hn]; rfl
  rw [hn4] at GA
  clear hn4 hn
  have k1 : (0 : Int) ≤ a := by omega
  have k2 : (0 : Int) ≤ n := by omega
  have k3 : (a : Int) ≤ m.length := by omega
  have k4 : (n : Int) ≤ (m.length : Int) - a := by omega
  have k5 : (a : Int) + n ≤ m.length := by omega
  have hs0 : ((a : Int) + n).toNat = a + n := by omega
  obtain ⟨z1, hz1⟩ : ∃ z1, z1 = w.alloc (.cells rrZ.toArray 119) := ⟨_, rfl⟩
  obtain ⟨W, hW⟩ : ∃ W, W = z1.alloc (.cells rrZ.toArray 119) := ⟨_, rfl⟩
  have B10 : Blk W w.heap.size 119 rrZ := by rw [hW, hz1]; exact (Blk.new w 119 rrZ).alloc _
  have B12 : Blk W (w.heap.size + 1) 119 rrZ := by rw [hW, hz1]; exact Blk.new' _ _ rrZ _ (by simp)
  have HB : Below w.heap.size w W := by rw [hW, hz1]; exact ((Below.refl _ _).alloc (Nat.le_refl _) _).alloc (by simp) _
  have HW : Hid ((w.alloc (.cells #[.slice none 0 0, .int .i64 0, .int .i64 0, .int .i64 0, .int .i64 0, .int .u8 0, .int .u8 0, .int .u8 0, .int .u8 0, .int .u8 0, .int .u8 0, .int .u8 0, .int .u8 0, .int .u8 0, .int .u8 0, .int .u8 0, .int .u8 0, .int .u8 0, .int .u8 0, .int .u8 0, .int .u8 0, .int .i64 0, .slice none 0 0, .slice none 0 0, .int .i64 0, .int .i64 0, .int .i64 0, .int .i64 0, .int .i64 0, .int .i64 0, .int .i64 0, .int .i64 0, .string ⟨#[]⟩] 119)).alloc (.cells #[.slice none 0 0, .int .i64 0, .int .i64 0, .int .i64 0, .int .i64 0, .int .u8 0, .int .u8 0, .int .u8 0, .int .u8 0, .int .u8 0, .int .u8 0, .int .u8 0, .int .u8 0, .int .u8 0, .int .u8 0, .int .u8 0, .int .u8 0, .int .u8 0, .int .u8 0, .int .u8 0, .int .u8 0, .int .i64 0, .slice none 0 0, .slice none 0 0, .int .i64 0, .int .i64 0, .int .i64 0, .int .i64 0, .int .i64 0, .int .i64 0, .int .i64 0, .int .i64 0, .string ⟨#[]⟩] 119) = W) := Hh (by rw [hW, hz1, rrZ_lit])
  have hWs : W.heap.size = w.heap.size + 1 + 1 := by rw [hW, hz1]; simp
  clear hW hz1
  go_enter func251, ntmps251
  go_wp2_with fail
  rw [HW.out]
  refine (K.out W).mono ?_
  rintro _ w1 ⟨rfl, rfl⟩
  clear K HW
  go_wp2_with fail
  rw [List.take_take, Nat.min_self]
  refine (GA.out (w.heap.size + 1) W B12).mono ?_
  rintro _ w2 ⟨rfl, B2, g2⟩
  have A2 := B10.grown g2 (by simp)
  have HB2 := below_grown HB g2 HB.size (by omega)
  have OW : Hid (∀ w', Stays w2 w' → RRown w' L r) := Hh (fun w' _ => OW'.out w')
  clear B12 B10 HB g2 GA OW'
  go_wp2_with (first
   | (refine at_op (.load 119 (.tmp 12)) rfl ?_; go_must (refine wpList_ldB rfl _ _ rfl (w.heap.size + 1) 0 rfl B2 33 (by omega) _ underlying119 rfl rrInfo L (tk0 (by omega)) ?_))
   | (refine at_op (.store 119 (.tmp 10) (.tmp 79)) rfl ?_; go_must (refine wpList_stB rfl _ _ _ rfl w.heap.size 0 rfl L rfl A2 (by rw [rrZ_len]; omega) (by rw [ll]; exact rrInfo) l1.out ?_)))
  intro w3 hb3 hg3 _
  rw [List.drop_of_length_le (by rw [rrZ_len]; omega), List.append_nil] at hb3
  have S3 := Stays.blk hg3 A2 (by decide)
  have HB3 := below_grown HB2 hg3 HB2.size (Nat.le_refl _)
  clear hg3 A2 B2 HB2
  go_wp2_with fail
  refine ret_cell_tmp rfl w.heap.size rfl hb3 _ underlying119 rfl (by rw [ll]; exact rrInfo) rfl (.int .i64 0) rfl ?_
  exact ⟨L, rfl, OW.out _ S3, HB3⟩
 case inr =>
  have hn4 : ((n : Nat) : Int) = 16 := by rw [hn]; rfl
  rw [hn4] at GA
  clear hn4 hn
  have k1 : (0 : Int) ≤ a := by omega
  have k2 : (0 : Int) ≤ n := by omega
  have k3 : (a : Int) ≤ m.length := by omega
  have k4 : (n : Int) ≤ (m.length : Int) - a := by omega
  have k5 : (a : Int) + n ≤ m.length := by omega
  have hs0 : ((a : Int) + n).toNat = a + n := by omega
  obtain ⟨z1, hz1⟩ : ∃ z1, z1 = w.alloc (.cells rrZ.toArray 119) := ⟨_, rfl⟩
  obtain ⟨W, hW⟩ : ∃ W, W = z1.alloc (.cells rrZ.toArray 119) := ⟨_, rfl⟩
  have B10 : Blk W w.heap.size 119 rrZ := by rw [hW, hz1]; exact (Blk.new w 119 rrZ).alloc _
  have B12 : Blk W (w.heap.size + 1) 119 rrZ := by rw [hW, hz1]; exact Blk.new' _ _ rrZ _ (by simp)
  have HB : Below w.heap.size w W := by rw [hW, hz1]; exact ((Below.refl _ _).alloc (Nat.le_refl _) _).alloc (by simp) _
  have HW : Hid ((w.alloc (.cells #[.slice none 0 0, .int .i64 0, .int .i64 0, .int .i64 0, .int .i64 0, .int .u8 0, .int .u8 0, .int .u8 0, .int .u8 0, .int .u8 0, .int .u8 0, .int .u8 0, .int .u8 0, .int .u8 0, .int .u8 0, .int .u8 0, .int .u8 0, .int .u8 0, .int .u8 0, .int .u8 0, .int .u8 0, .int .i64 0, .slice none 0 0, .slice none 0 0, .int .i64 0, .int .i64 0, .int .i64 0, .int .i64 0, .int .i64 0, .int .i64 0, .int .i64 0, .int .i64 0, .string ⟨#[]⟩] 119)).alloc (.cells #[.slice none 0 0, .int .i64 0, .int .i64 0, .int .i64 0, .int .i64 0, .int .u8 0, .int .u8 0, .int .u8 0, .int .u8 0, .int .u8 0, .int .u8 0, .int .u8 0, .int .u8 0, .int .u8 0, .int .u8 0, .int .u8 0, .int .u8 0, .int .u8 0, .int .u8 0, .int .u8 0, .int .u8 0, .int .i64 0, .slice none 0 0, .slice none 0 0, .int .i64 0, .int .i64 0, .int .i64 0, .int .i64 0, .int .i64 0, .int .i64 0, .int .i64 0, .int .i64 0, .string ⟨#[]⟩] 119) = W) := Hh (by rw [hW, hz1, rrZ_lit])
  have hWs : W.heap.size = w.heap.size + 1 + 1 := by rw [hW, hz1]; simp
  clear hW hz1
  go_enter func251, ntmps251
  go_wp2_with fail
  rw [HW.out]
  refine (K.out W).mono ?_
  rintro _ w1 ⟨rfl, rfl⟩
  clear K HW
  go_wp2_with fail
  rw [List.take_take, Nat.min_self]
  refine (GA.out (w.heap.size + 1) W B12).mono ?_
  rintro _ w2 ⟨rfl, B2, g2⟩
  have A2 := B10.grown g2 (by simp)
  have HB2 := below_grown HB g2 HB.size (by omega)
  have OW : Hid (∀ w', Stays w2 w' → RRown w' L r) := Hh (fun w' _ => OW'.out w')
  clear B12 B10 HB g2 GA OW'
  go_wp2_with (first
   | (refine at_op (.load 119 (.tmp 12)) rfl ?_; go_must (refine wpList_ldB rfl _ _ rfl (w.heap.size + 1) 0 rfl B2 33 (by omega) _ underlying119 rfl rrInfo L (tk0 (by omega)) ?_))
   | (refine at_op (.store 119 (.tmp 10) (.tmp 79)) rfl ?_; go_must (refine wpList_stB rfl _ _ _ rfl w.heap.size 0 rfl L rfl A2 (by rw [rrZ_len]; omega) (by rw [ll]; exact rrInfo) l1.out ?_)))
  intro w3 hb3 hg3 _
  rw [List.drop_of_length_le (by rw [rrZ_len]; omega), List.append_nil] at hb3
  have S3 := Stays.blk hg3 A2 (by decide)
  have HB3 := below_grown HB2 hg3 HB2.size (Nat.le_refl _)
  clear hg3 A2 B2 HB2
  go_wp2_with fail
  refine ret_cell_tmp rfl w.heap.size rfl hb3 _ underlying119 rfl (by rw [ll]; exact rrInfo) rfl (.int .i64 0) rfl ?_
  exact ⟨L, rfl, OW.out _ S3, HB3⟩
def mapE {α β : Type} (f : α → β) (o : Except Int α) : Except Int β := match o with
 | .error e => .error e
 | .ok x => .ok (f x)
set_option maxHeartbeats 1000000 in
theorem rget_adr_no (k : Nat) (hkf : k = 1 ∨ k = 28) (m : List UInt8) (a n : Nat) (ty cl : Int) (w : World) (hm : a + n ≤ m.length) (hl : m.length ≤ 4000000) (hk : kindR ty cl = k) (hn : n ≠ if k = 1 then 4 else 16) :
  Calls prog 251 #[.string (bs m), .int .i64 a, .int .i64 n, .int .i64 ty, .int .i64 cl] w (GetR (.error 5) w) := by
 have K := Hh (fun w => kindOf_any ty cl w)
 rw [hk] at K
 clear hk
 have hd : ((m.take (a + n)).drop a).length = n := by simp; omega
 have hl33 : rrZ.length = 33 := rrZ_len
 have hx : (5 : Int) ≠ 0 := by decide
 rcases hkf with rfl | rfl
 case inl =>
  have GA := Hh (fun g w => getAddr_no g ((m.take (a + n)).drop a) 4 4 w (by rw [hd]; simpa using hn))
  clear hn hd
  have k1 : (0 : Int) ≤ a := by omega
  have k2 : (0 : Int) ≤ n := by omega
  have k3 : (a : Int) ≤ m.length := by omega
  have k4 : (n : Int) ≤ (m.length : Int) - a := by omega
  have k5 : (a : Int) + n ≤ m.length := by omega
  have hs0 : ((a : Int) + n).toNat = a + n := by omega
  obtain ⟨z1, hz1⟩ : ∃ z1, z1 = w.alloc (.cells rrZ.toArray 119) := ⟨_, rfl⟩
  obtain ⟨W, hW⟩ : ∃ W, W = z1.alloc (.cells rrZ.toArray 119) := ⟨_, rfl⟩
  have B10 : Blk W w.heap.size 119 rrZ := by rw [hW, hz1]; exact (Blk.new w 119 rrZ).alloc _
  have B12 : Blk W (w.heap.size + 1) 119 rrZ := by rw [hW, hz1]; exact Blk.new' _ _ rrZ _ (by simp)
  have HB : Below w.heap.size w W := by rw [hW, hz1]; exact ((Below.refl _ _).alloc (Nat.le_refl _) _).alloc (by simp) _
  have HW : Hid ((w.alloc (.cells #[.slice none 0 0, .int .i64 0, .int .i64 0, .int .i64 0, .int .i64 0, .int .u8 0, .int .u8 0, .int .u8 0, .int .u8 0, .int .u8 0, .int .u8 0, .int .u8 0, .int .u8 0, .int .u8 0, .int .u8 0, .int .u8 0, .int .u8 0, .int .u8 0, .int .u8 0, .int .u8 0, .int .u8 0, .int .i64 0, .slice none 0 0, .slice none 0 0, .int .i64 0, .int .i64 0, .int .i64 0, .int .i64 0, .int .i64 0, .int .i64 0, .int .i64 0, .int .i64 0, .string ⟨#[]⟩] 119)).alloc (.cells #[.slice none 0 0, .int .i64 0, .int .i64 0, .int .i64 0, .int .i64 0, .int .u8 0, .int .u8 0, .int .u8 0, .int .u8 0, .int .u8 0, .int .u8 0, .int .u8 0, .int .u8 0, .int .u8 0, .int .u8 0, .int .u8 0, .int .u8 0, .int .u8 0, .int .u8 0, .int .u8 0, .int .u8 0, .int .i64 0, .slice none 0 0, .slice none 0 0, .int .i64 0, .int .i64 0, .int .i64 0, .int .i64 0, .int .i64 0, .int .i64 0, .int .i64 0, .int .i64 0, .string ⟨#[]⟩] 119) = W) := Hh (by rw [hW, hz1, rrZ_lit])
  have hWs : W.heap.size = w.heap.size + 1 + 1 := by rw [hW, hz1]; simp
  clear hW hz1
  go_enter func251, ntmps251
  go_wp2_with fail
  rw [HW.out]
  refine (K.out W).mono ?_
  rintro _ w1 ⟨rfl, rfl⟩
  clear K HW
  go_wp2_with fail
  rw [List.take_take, Nat.min_self]
  refine (GA.out (w.heap.size + 1) W).mono ?_
  rintro _ w2 ⟨rfl, rfl⟩
  have A2 := B10
  have HB2 := HB
  clear B12 B10 HB GA
  go_wp2_with (refine at_op (.store 119 (.tmp 10) (.tmp 77)) rfl ?_; go_must (refine wpList_stB rfl _ _ _ rfl w.heap.size 0 rfl rrZ rfl A2 (by rw [rrZ_len]; omega) (by rw [rrZ_len]; exact rrInfo) rrZ_one ?_))
  intro w3 hb3 hg3 _
  rw [List.drop_of_length_le (by rw [rrZ_len]; omega), List.append_nil] at hb3
  have HB3 := below_grown HB2 hg3 HB2.size (Nat.le_refl _)
  clear hg3 A2 HB2
  go_wp2_with fail
  refine ret_cell_tmp rfl w.heap.size rfl hb3 _ underlying119 rfl (by rw [rrZ_len]; exact rrInfo) rfl (.int .i64 5) rfl ?_
  exact ⟨hx, rfl, HB3⟩
 case inr =>
  have GA := Hh (fun g w => getAddr_no g ((m.take (a + n)).drop a) 16 6 w (by rw [hd]; simpa using hn))
  clear hn hd
  have k1 : (0 : Int) ≤ a := by omega
  have k2 : (0 : Int) ≤ n := by omega
  have k3 : (a : Int) ≤ m.length := by omega
  have k4 : (n : Int) ≤ (m.length : Int) - a := by omega
  have k5 : (a : Int) + n ≤ m.length := by omega
  have hs0 : ((a : Int) + n).toNat = a + n := by omega
  obtain ⟨z1, hz1⟩ : ∃ z1, z1 = w.alloc (.cells rrZ.toArray 119) := ⟨_, rfl⟩
  obtain ⟨W, hW⟩ : ∃ W, W = z1.alloc (.cells rrZ.toArray 119) := ⟨_, rfl⟩
  have B10 : Blk W w.heap.size 119 rrZ := by rw [hW, hz1]; exact (Blk.new w 119 rrZ).alloc _
  have B12 : Blk W (w.heap.size + 1) 119 rrZ := by rw [hW, hz1]; exact Blk.new' _ _ rrZ _ (by simp)
  have HB : Below w.heap.size w W := by rw [hW, hz1]; exact ((Below.refl _ _).alloc (Nat.le_refl _) _).alloc (by simp) _
  have HW : Hid ((w.alloc (.cells #[.slice none 0 0, .int .i64 0, .int .i64 0, .int .i64 0, .int .i64 0, .int .u8 0, .int .u8 0, .int .u8 0, .int .u8 0, .int .u8 0, .int .u8 0, .int .u8 0, .int .u8 0, .int .u8 0, .int .u8 0, .int .u8 0, .int .u8 0, .int .u8 0, .int .u8 0, .int .u8 0, .int .u8 0, .int .i64 0, .slice none 0 0, .slice none 0 0, .int .i64 0, .int .i64 0, .int .i64 0, .int .i64 0, .int .i64 0, .int .i64 0, .int .i64 0, .int .i64 0, .string ⟨#[]⟩] 119)).alloc (.cells #[.slice none 0 0, .int .i64 0, .int .i64 0, .int .i64 0, .int .i64 0, .int .u8 0, .int .u8 0, .int .u8 0, .int .u8 0, .int .u8 0, .int .u8 0, .int .u8 0, .int .u8 0, .int .u8 0, .int .u8 0, .int .u8 0, .int .u8 0, .int .u8 0, .int .u8 0, .int .u8 0, .int .u8 0, .int .i64 0, .slice none 0 0, .slice none 0 0, .int .i64 0, .int .i64 0, .int .i64 0, .int .i64 0, .int .i64 0, .int .i64 0, .int .i64 0, .int .i64 0, .string ⟨#[]⟩] 119) = W) := Hh (by rw [hW, hz1, rrZ_lit])
  have hWs : W.heap.size = w.heap.size + 1 + 1 := by rw [hW, hz1]; simp
  clear hW hz1
  go_enter func251, ntmps251
  go_wp2_with fail
  rw [HW.out]
  refine (K.out W).mono ?_
  rintro _ w1 ⟨rfl, rfl⟩
  clear K HW
  go_wp2_with fail
  rw [List.take_take, Nat.min_self]
  refine (GA.out (w.heap.size + 1) W).mono ?_
  rintro _ w2 ⟨rfl, rfl⟩
  have A2 := B10
  have HB2 := HB
  clear B12 B10 HB GA
  go_wp2_with (refine at_op (.store 119 (.tmp 10) (.tmp 77)) rfl ?_; go_must (refine wpList_stB rfl _ _ _ rfl w.heap.size 0 rfl rrZ rfl A2 (by rw [rrZ_len]; omega) (by rw [rrZ_len]; exact rrInfo) rrZ_one ?_))
  intro w3 hb3 hg3 _
  rw [List.drop_of_length_le (by rw [rrZ_len]; omega), List.append_nil] at hb3
  have HB3 := below_grown HB2 hg3 HB2.size (Nat.le_refl _)
  clear hg3 A2 HB2
  go_wp2_with fail
  refine ret_cell_tmp rfl w.heap.size rfl hb3 _ underlying119 rfl (by rw [rrZ_len]; exact rrInfo) rfl (.int .i64 5) rfl ?_
  exact ⟨hx, rfl, HB3⟩
set_option maxHeartbeats 1000000 in
theorem rget_name (k : Nat) (hkf : k = 5 ∨ k = 12) (m : List UInt8) (a n : Nat) (ty cl : Int) (w : World) (hm : a + n ≤ m.length) (hl : m.length ≤ 4000000) (hk : kindR ty cl = k) (o : Except Int (List (List UInt8))) (ho : targAt (m.take (a + n)) a = o) :
  Calls prog 251 #[.string (bs m), .int .i64 a, .int .i64 n, .int .i64 ty, .int .i64 cl] w (GetR (mapE (fun l => { RR.zero with tg := l }) o) w) := by
 have K := Hh (fun w => kindOf_any ty cl w)
 rw [hk] at K
 clear hk
 have hl33 : rrZ.length = 33 := rrZ_len
 have TG := Hh (fun g w hb => getTarget_any g rrZ (m.take (a + n)) a w hb hl33 (by simp; omega))
 rw [ho] at TG
 clear ho
 cases o with
 | error x =>
  simp only [mapE]
  rcases hkf with rfl | rfl
  case inl =>
   have k1 : (0 : Int) ≤ a := by omega
   have k2 : (0 : Int) ≤ n := by omega
   have k3 : (a : Int) ≤ m.length := by omega
   have k4 : (n : Int) ≤ (m.length : Int) - a := by omega
   have k5 : (a : Int) + n ≤ m.length := by omega
   have hs0 : ((a : Int) + n).toNat = a + n := by omega
   obtain ⟨z1, hz1⟩ : ∃ z1, z1 = w.alloc (.cells rrZ.toArray 119) := ⟨_, rfl⟩
   obtain ⟨W, hW⟩ : ∃ W, W = z1.alloc (.cells rrZ.toArray 119) := ⟨_, rfl⟩
   have B10 : Blk W w.heap.size 119 rrZ := by rw [hW, hz1]; exact (Blk.new w 119 rrZ).alloc _
   have B12 : Blk W (w.heap.size + 1) 119 rrZ := by rw [hW, hz1]; exact Blk.new' _ _ rrZ _ (by simp)
   have HB : Below w.heap.size w W := by rw [hW, hz1]; exact ((Below.refl _ _).alloc (Nat.le_refl _) _).alloc (by simp) _
   have HW : Hid ((w.alloc (.cells #[.slice none 0 0, .int .i64 0, .int .i64 0, .int .i64 0, .int .i64 0, .int .u8 0, .int .u8 0, .int .u8 0, .int .u8 0, .int .u8 0, .int .u8 0, .int .u8 0, .int .u8 0, .int .u8 0, .int .u8 0, .int .u8 0, .int .u8 0, .int .u8 0, .int .u8 0, .int .u8 0, .int .u8 0, .int .i64 0, .slice none 0 0, .slice none 0 0, .int .i64 0, .int .i64 0, .int .i64 0, .int .i64 0, .int .i64 0, .int .i64 0, .int .i64 0, .int .i64 0, .string ⟨#[]⟩] 119)).alloc (.cells #[.slice none 0 0, .int .i64 0, .int .i64 0, .int .i64 0, .int .i64 0, .int .u8 0, .int .u8 0, .int .u8 0, .int .u8 0, .int .u8 0, .int .u8 0, .int .u8 0, .int .u8 0, .int .u8 0, .int .u8 0, .int .u8 0, .int .u8 0, .int .u8 0, .int .u8 0, .int .u8 0, .int .u8 0, .int .i64 0, .slice none 0 0, .slice none 0 0, .int .i64 0, .int .i64 0, .int .i64 0, .int .i64 0, .int .i64 0, .int .i64 0, .int .i64 0, .int .i64 0, .string ⟨#[]⟩] 119) = W) := Hh (by rw [hW, hz1, rrZ_lit])
   have hWs : W.heap.size = w.heap.size + 1 + 1 := by rw [hW, hz1]; simp
   clear hW hz1
   go_enter func251, ntmps251
   go_wp2_with fail
   rw [HW.out]
   refine (K.out W).mono ?_
   rintro _ w1 ⟨rfl, rfl⟩
   clear K HW
   go_wp2_with fail
   refine (TG.out (w.heap.size + 1) W B12).mono ?_
   rintro _ w2 ⟨hx, rfl, B2, g2⟩
   have hxz : (x != 0) = true := by simpa using hx
   have A2 := B10.grown g2 (by simp)
   have HB2 := below_grown HB g2 HB.size (by omega)
   clear B12 B10 HB TG g2
   go_wp2_with (refine at_op (.store 119 (.tmp 10) (.tmp 77)) rfl ?_; go_must (refine wpList_stB rfl _ _ _ rfl w.heap.size 0 rfl rrZ rfl A2 (by rw [rrZ_len]; omega) (by rw [rrZ_len]; exact rrInfo) rrZ_one ?_))
   intro w3 hb3 hg3 _
   rw [List.drop_of_length_le (by rw [rrZ_len]; omega), List.append_nil] at hb3
   have HB3 := below_grown HB2 hg3 HB2.size (Nat.le_refl _)
   clear hg3 A2 HB2
   go_wp2_with fail
   refine ret_cell_tmp rfl w.heap.size rfl hb3 _ underlying119 rfl (by rw [rrZ_len]; exact rrInfo) rfl (.int .i64 x) rfl ?_
   exact ⟨hx, rfl, HB3⟩
  case inr =>
   have k1 : (0 : Int) ≤ a := by omega
   have k2 : (0 : Int) ≤ n := by omega
   have k3 : (a : Int) ≤ m.length := by omega
   have k4 : (n : Int) ≤ (m.length : Int) - a := by omega
   have k5 : (a : Int) + n ≤ m.length := by omega
   have hs0 : ((a : Int) + n).toNat = a + n := by omega
   obtain ⟨z1, hz1⟩ : ∃ z1, z1 = w.alloc (.cells rrZ.toArray 119) := ⟨_, rfl⟩
   obtain ⟨W, hW⟩ : ∃ W, W = z1.alloc (.cells rrZ.toArray 119) := ⟨_, rfl⟩
   have B10 : Blk W w.heap.size 119 rrZ := by rw [hW, hz1]; exact (Blk.new w 119 rrZ).alloc _
   have B12 : Blk W (w.heap.size + 1) 119 rrZ := by rw [hW, hz1]; exact Blk.new' _ _ rrZ _ (by simp)
   have HB : Below w.heap.size w W := by rw [hW, hz1]; exact ((Below.refl _ _).alloc (Nat.le_refl _) _).alloc (by simp) _
   have HW : Hid ((w.alloc (.cells #[.slice none 0 0, .int .i64 0, .int .i64 0, .int .i64 0, .int .i64 0, .int .u8 0, .int .u8 0, .int .u8 0, .int .u8 0, .int .u8 0, .int .u8 0, .int .u8 0, .int .u8 0, .int .u8 0, .int .u8 0, .int .u8 0, .int .u8 0, .int .u8 0, .int .u8 0, .int .u8 0, .int .u8 0, .int .i64 0, .slice none 0 0, .slice none 0 0, .int .i64 0, .int .i64 0, .int .i64 0, .int .i64 0, .int .i64 0, .int .i64 0, .int .i64 0, .int .i64 0, .string ⟨#[]⟩] 119)).alloc (.cells #[.slice none 0 0, .int .i64 0, .int .i64 0, .int .i64 0, .int .i64 0, .int .u8 0, .int .u8 0, .int .u8 0, .int .u8 0, .int .u8 0, .int .u8 0, .int .u8 0, .int .u8 0, .int .u8 0, .int .u8 0, .int .u8 0, .int .u8 0, .int .u8 0, .int .u8 0, .int .u8 0, .int .u8 0, .int .i64 0, .slice none 0 0, .slice none 0 0, .int .i64 0, .int .i64 0, .int .i64 0, .int .i64 0, .int .i64 0, .int .i64 0, .int .i64 0, .int .i64 0, .string ⟨#[]⟩] 119) = W) := Hh (by rw [hW, hz1, rrZ_lit])
   have hWs : W.heap.size = w.heap.size + 1 + 1 := by rw [hW, hz1]; simp
   clear hW hz1
   go_enter func251, ntmps251
   go_wp2_with fail
   rw [HW.out]
   refine (K.out W).mono ?_
   rintro _ w1 ⟨rfl, rfl⟩
   clear K HW
   go_wp2_with fail
   refine (TG.out (w.heap.size + 1) W B12).mono ?_
   rintro _ w2 ⟨hx, rfl, B2, g2⟩
   have hxz : (x != 0) = true := by simpa using hx
   have A2 := B10.grown g2 (by simp)
   have HB2 := below_grown HB g2 HB.size (by omega)
   clear B12 B10 HB TG g2
   go_wp2_with (refine at_op (.store 119 (.tmp 10) (.tmp 77)) rfl ?_; go_must (refine wpList_stB rfl _ _ _ rfl w.heap.size 0 rfl rrZ rfl A2 (by rw [rrZ_len]; omega) (by rw [rrZ_len]; exact rrInfo) rrZ_one ?_))
   intro w3 hb3 hg3 _
   rw [List.drop_of_length_le (by rw [rrZ_len]; omega), List.append_nil] at hb3
   have HB3 := below_grown HB2 hg3 HB2.size (Nat.le_refl _)
   clear hg3 A2 HB2
   go_wp2_with fail
   refine ret_cell_tmp rfl w.heap.size rfl hb3 _ underlying119 rfl (by rw [rrZ_len]; exact rrInfo) rfl (.int .i64 x) rfl ?_
   exact ⟨hx, rfl, HB3⟩
 | ok l =>
  simp only [mapE]
  obtain ⟨r, hr⟩ : ∃ r : RR, r = { RR.zero with tg := l } := ⟨_, rfl⟩
  rw [← hr]
  rcases hkf with rfl | rfl
  case inl =>
   have k1 : (0 : Int) ≤ a := by omega
   have k2 : (0 : Int) ≤ n := by omega
   have k3 : (a : Int) ≤ m.length := by omega
   have k4 : (n : Int) ≤ (m.length : Int) - a := by omega
   have k5 : (a : Int) + n ≤ m.length := by omega
   have hs0 : ((a : Int) + n).toNat = a + n := by omega
   obtain ⟨z1, hz1⟩ : ∃ z1, z1 = w.alloc (.cells rrZ.toArray 119) := ⟨_, rfl⟩
   obtain ⟨W, hW⟩ : ∃ W, W = z1.alloc (.cells rrZ.toArray 119) := ⟨_, rfl⟩
   have B10 : Blk W w.heap.size 119 rrZ := by rw [hW, hz1]; exact (Blk.new w 119 rrZ).alloc _
   have B12 : Blk W (w.heap.size + 1) 119 rrZ := by rw [hW, hz1]; exact Blk.new' _ _ rrZ _ (by simp)
   have HB : Below w.heap.size w W := by rw [hW, hz1]; exact ((Below.refl _ _).alloc (Nat.le_refl _) _).alloc (by simp) _
   have HW : Hid ((w.alloc (.cells #[.slice none 0 0, .int .i64 0, .int .i64 0, .int .i64 0, .int .i64 0, .int .u8 0, .int .u8 0, .int .u8 0, .int .u8 0, .int .u8 0, .int .u8 0, .int .u8 0, .int .u8 0, .int .u8 0, .int .u8 0, .int .u8 0, .int .u8 0, .int .u8 0, .int .u8 0, .int .u8 0, .int .u8 0, .int .i64 0, .slice none 0 0, .slice none 0 0, .int .i64 0, .int .i64 0, .int .i64 0, .int .i64 0, .int .i64 0, .int .i64 0, .int .i64 0, .int .i64 0, .string ⟨#[]⟩] 119)).alloc (.cells #[.slice none 0 0, .int .i64 0, .int .i64 0, .int .i64 0, .int .i64 0, .int .u8 0, .int .u8 0, .int .u8 0, .int .u8 0, .int .u8 0, .int .u8 0, .int .u8 0, .int .u8 0, .int .u8 0, .int .u8 0, .int .u8 0, .int .u8 0, .int .u8 0, .int .u8 0, .int .u8 0, .int .u8 0, .int .i64 0, .slice none 0 0, .slice none 0 0, .int .i64 0, .int .i64 0, .int .i64 0, .int .i64 0, .int .i64 0, .int .i64 0, .int .i64 0, .int .i64 0, .string ⟨#[]⟩] 119) = W) := Hh (by rw [hW, hz1, rrZ_lit])
   have hWs : W.heap.size = w.heap.size + 1 + 1 := by rw [hW, hz1]; simp
   clear hW hz1
   go_enter func251, ntmps251
   go_wp2_with fail
   rw [HW.out]
   refine (K.out W).mono ?_
   rintro _ w1 ⟨rfl, rfl⟩
   clear K HW
   go_wp2_with fail
   refine (TG.out (w.heap.size + 1) W B12).mono ?_
   rintro _ w2 ⟨v, rfl, B2, nv, g2⟩
   have A2 := B10.grown g2 (by simp)
   have HB2 := below_grown HB g2 HB.size (by omega)
   obtain ⟨L, hL⟩ : ∃ L, L = rrZ.set 22 v := ⟨_, rfl⟩
   rw [← hL] at B2
   replace hL : L = rrC nilS v nilS r := by rw [hL, hr]; rfl
   have hwf : r.wf := by rw [hr]; exact ⟨rfl, rfl⟩
   have ll : L.length = 33 := rget_len hL hwf
   have l1 : Hid (∀ v ∈ L, v.oneCell' = true) := Hh (by rw [hL]; exact rrC_one rfl nv.one rfl)
   have OW : Hid (∀ w', Stays w2 w' → RRown w' L r) := Hh (fun w' hS => ⟨nilS, v, nilS, hL, hwf, by rw [hr]; exact NmO.nil _, by rw [hr]; exact nv.stays hS, by rw [hr]; exact NmO.nil _, by rw [hr]; simp [RR.zero]⟩)
   clear hL B12 B10 HB g2 TG nv hr hwf
   go_wp2_with (first
    | (refine at_op (.load 119 (.tmp 12)) rfl ?_; go_must (refine wpList_ldB rfl _ _ rfl (w.heap.size + 1) 0 rfl B2 33 (by omega) _ underlying119 rfl rrInfo L (tk0 (by omega)) ?_))
    | (refine at_op (.store 119 (.tmp 10) (.tmp 79)) rfl ?_; go_must (refine wpList_stB rfl _ _ _ rfl w.heap.size 0 rfl L rfl A2 (by rw [rrZ_len]; omega) (by rw [ll]; exact rrInfo) l1.out ?_)))
   intro w3 hb3 hg3 _
   rw [List.drop_of_length_le (by rw [rrZ_len]; omega), List.append_nil] at hb3
   have S3 := Stays.blk hg3 A2 (by decide)
   have HB3 := below_grown HB2 hg3 HB2.size (Nat.le_refl _)
   clear hg3 A2 B2 HB2
   go_wp2_with fail
   refine ret_cell_tmp rfl w.heap.size rfl hb3 _ underlying119 rfl (by rw [ll]; exact rrInfo) rfl (.int .i64 0) rfl ?_
   exact ⟨L, rfl, OW.out _ S3, HB3⟩
  case inr =>
   have k1 : (0 : Int) ≤ a := by omega
   have k2 : (0 : Int) ≤ n := by omega
   have k3 : (a : Int) ≤ m.length := by omega
   have k4 : (n : Int) ≤ (m.length : Int) - a := by omega
   have k5 : (a : Int) + n ≤ m.length := by omega
   have hs0 : ((a : Int) + n).toNat = a + n := by omega
   obtain ⟨z1, hz1⟩ : ∃ z1, z1 = w.alloc (.cells rrZ.toArray 119) := ⟨_, rfl⟩
   obtain ⟨W, hW⟩ : ∃ W, W = z1.alloc (.cells rrZ.toArray 119) := ⟨_, rfl⟩
   have B10 : Blk W w.heap.size 119 rrZ := by rw [hW, hz1]; exact (Blk.new w 119 rrZ).alloc _
   have B12 : Blk W (w.heap.size + 1) 119 rrZ := by rw [hW, hz1]; exact Blk.new' _ _ rrZ _ (by simp)
   have HB : Below w.heap.size w W := by rw [hW, hz1]; exact ((Below.refl _ _).alloc (Nat.le_refl _) _).alloc (by simp) _
   have HW : Hid ((w.alloc (.cells #[.slice none 0 0, .int .i64 0, .int .i64 0, .int .i64 0, .int .i64 0, .int .u8 0, .int .u8 0, .int .u8 0, .int .u8 0, .int .u8 0, .int .u8 0, .int .u8 0, .int .u8 0, .int .u8 0, .int .u8 0, .int .u8 0, .int .u8 0, .int .u8 0, .int .u8 0, .int .u8 0, .int .u8 0, .int .i64 0, .slice none 0 0, .slice none 0 0, .int .i64 0, .int .i64 0, .int .i64 0, .int .i64 0, .int .i64 0, .int .i64 0, .int .i64 0, .int .i64 0, .string ⟨#[]⟩] 119)).alloc (.cells #[.slice none 0 0, .int .i64 0, .int .i64 0, .int .i64 0, .int .i64 0, .int .u8 0, .int .u8 0, .int .u8 0, .int .u8 0, .int .u8 0, .int .u8 0, .int .u8 0, .int .u8 0, .int .u8 0, .int .u8 0, .int .u8 0, .int .u8 0, .int .u8 0, .int .u8 0, .int .u8 0, .int .u8 0, .int .i64 0, .slice none 0 0, .slice none 0 0, .int .i64 0, .int .i64 0, .int .i64 0, .int .i64 0, .int .i64 0, .int .i64 0, .int .i64 0, .int .i64 0, .string ⟨#[]⟩] 119) = W) := Hh (by rw [hW, hz1, rrZ_lit])
   have hWs : W.heap.size = w.heap.size + 1 + 1 := by rw [hW, hz1]; simp
   clear hW hz1
   go_enter func251, ntmps251
   go_wp2_with fail
   rw [HW.out]
   refine (K.out W).mono ?_
   rintro _ w1 ⟨rfl, rfl⟩
   clear K HW
   go_wp2_with fail
   refine (TG.out (w.heap.size + 1) W B12).mono ?_
   rintro _ w2 ⟨v, rfl, B2, nv, g2⟩
   have A2 := B10.grown g2 (by simp)
   have HB2 := below_grown HB g2 HB.size (by omega)
   obtain ⟨L, hL⟩ : ∃ L, L = rrZ.set 22 v := ⟨_, rfl⟩
   rw [← hL] at B2
   replace hL : L = rrC nilS v nilS r := by rw [hL, hr]; rfl
   have hwf : r.wf := by rw [hr]; exact ⟨rfl, rfl⟩
   have ll : L.length = 33 := rget_len hL hwf
   have l1 : Hid (∀ v ∈ L, v.oneCell' = true) := Hh (by rw [hL]; exact rrC_one rfl nv.one rfl)
   have OW : Hid (∀ w', Stays w2 w' → RRown w' L r) := Hh (fun w' hS => ⟨nilS, v, nilS, hL, hwf, by rw [hr]; exact NmO.nil _, by rw [hr]; exact nv.stays hS, by rw [hr]; exact NmO.nil _, by rw [hr]; simp [RR.zero]⟩)
   clear hL B12 B10 HB g2 TG nv hr hwf
   go_wp2_with (first
    | (refine at_op (.load 119 (.tmp 12)) rfl ?_; go_must (refine wpList_ldB rfl _ _ rfl (w.heap.size + 1) 0 rfl B2 33 (by omega) _ underlying119 rfl rrInfo L (tk0 (by omega)) ?_))
    | (refine at_op (.store 119 (.tmp 10) (.tmp 79)) rfl ?_; go_must (refine wpList_stB rfl _ _ _ rfl w.heap.size 0 rfl L rfl A2 (by rw [rrZ_len]; omega) (by rw [ll]; exact rrInfo) l1.out ?_)))
   intro w3 hb3 hg3 _
   rw [List.drop_of_length_le (by rw [rrZ_len]; omega), List.append_nil] at hb3
   have S3 := Stays.blk hg3 A2 (by decide)
   have HB3 := below_grown HB2 hg3 HB2.size (Nat.le_refl _)
   clear hg3 A2 B2 HB2
   go_wp2_with fail
   refine ret_cell_tmp rfl w.heap.size rfl hb3 _ underlying119 rfl (by rw [ll]; exact rrInfo) rfl (.int .i64 0) rfl ?_
   exact ⟨L, rfl, OW.out _ S3, HB3⟩
set_option maxHeartbeats 1000000 in
theorem rget_srv (m : List UInt8) (a n : Nat) (ty cl : Int) (w : World) (hm : a + n ≤ m.length) (hl : m.length ≤ 4000000) (hk : kindR ty cl = 33) (hn : 6 ≤ n) (o : Except Int (List (List UInt8))) (ho : targAt (m.take (a + n)) (a + 6) = o) :
  Calls prog 251 #[.string (bs m), .int .i64 a, .int .i64 n, .int .i64 ty, .int .i64 cl] w (GetR (mapE (fun l => { RR.zero with pri := numB (((m.take (a + n)).drop a).take 2), we := numB ((((m.take (a + n)).drop a).drop 2).take 2), po := numB ((((m.take (a + n)).drop a).drop 4).take 2), tg := l }) o) w) := by
 have K := Hh (fun w => kindOf_any ty cl w)
 rw [hk] at K
 clear hk
 have hl33 : rrZ.length = 33 := rrZ_len
 have TG := Hh (fun g w hb => getSRV_long g rrZ (m.take (a + n)) a w hb hl33 (by simp; omega) (by simp; omega) (by simp; omega))
 rw [ho] at TG
 clear ho
 generalize numB (((m.take (a + n)).drop a).take 2) = n1 at *
 generalize numB ((((m.take (a + n)).drop a).drop 2).take 2) = n2 at *
 generalize numB ((((m.take (a + n)).drop a).drop 4).take 2) = n3 at *
 cases o with
 | error x =>
  simp only [mapE]
  have k1 : (0 : Int) ≤ a := by omega
  have k2 : (0 : Int) ≤ n := by omega
  have k3 : (a : Int) ≤ m.length := by omega
  have k4 : (n : Int) ≤ (m.length : Int) - a := by omega
  have k5 : (a : Int) + n ≤ m.length := by omega
  have hs0 : ((a : Int) + n).toNat = a + n := by omega
  obtain ⟨z1, hz1⟩ : ∃ z1, z1 = w.alloc (.cells rrZ.toArray 119) := ⟨_, rfl⟩
  obtain ⟨W, hW⟩ : ∃ W, W = z1.alloc (.cells rrZ.toArray 119) := ⟨_, rfl⟩
  have B10 : Blk W w.heap.size 119 rrZ := by rw [hW, hz1]; exact (Blk.new w 119 rrZ).alloc _
  have B12 : Blk W (w.heap.size + 1) 119 rrZ := by rw [hW, hz1]; exact Blk.new' _ _ rrZ _ (by simp)
  have HB : Below w.heap.size w W := by rw [hW, hz1]; exact ((Below.refl _ _).alloc (Nat.le_refl _) _).alloc (by simp) _
  have HW : Hid ((w.alloc (.cells #[.slice none 0 0, .int .i64 0, .int .i64 0, .int .i64 0, .int .i64 0, .int .u8 0, .int .u8 0, .int .u8 0, .int .u8 0, .int .u8 0, .int .u8 0, .int .u8 0, .int .u8 0, .int .u8 0, .int .u8 0, .int .u8 0, .int .u8 0, .int .u8 0, .int .u8 0, .int .u8 0, .int .u8 0, .int .i64 0, .slice none 0 0, .slice none 0 0, .int .i64 0, .int .i64 0, .int .i64 0, .int .i64 0, .int .i64 0, .int .i64 0, .int .i64 0, .int .i64 0, .string ⟨#[]⟩] 119)).alloc (.cells #[.slice none 0 0, .int .i64 0, .int .i64 0, .int .i64 0, .int .i64 0, .int .u8 0, .int .u8 0, .int .u8 0, .int .u8 0, .int .u8 0, .int .u8 0, .int .u8 0, .int .u8 0, .int .u8 0, .int .u8 0, .int .u8 0, .int .u8 0, .int .u8 0, .int .u8 0, .int .u8 0, .int .u8 0, .int .i64 0, .slice none 0 0, .slice none 0 0, .int .i64 0, .int .i64 0, .int .i64 0, .int .i64 0, .int .i64 0, .int .i64 0, .int .i64 0, .int .i64 0, .string ⟨#[]⟩] 119) = W) := Hh (by rw [hW, hz1, rrZ_lit])
  have hWs : W.heap.size = w.heap.size + 1 + 1 := by rw [hW, hz1]; simp
  clear hW hz1
  go_enter func251, ntmps251
  go_wp2_with fail
  rw [HW.out]
  refine (K.out W).mono ?_
  rintro _ w1 ⟨rfl, rfl⟩
  clear K HW
  go_wp2_with fail
  refine (TG.out (w.heap.size + 1) W B12).mono ?_
  rintro _ w2 ⟨wx, gx, hx, rfl, B2, g2'⟩
  have g2 := grown_trans gx g2' (.inl rfl)
  have hxz : (x != 0) = true := by simpa using hx
  have A2 := B10.grown g2 (by simp)
  have HB2 := below_grown HB g2 HB.size (by omega)
  clear B12 B10 HB TG g2 gx g2'
  go_wp2_with (refine at_op (.store 119 (.tmp 10) (.tmp 77)) rfl ?_; go_must (refine wpList_stB rfl _ _ _ rfl w.heap.size 0 rfl rrZ rfl A2 (by rw [rrZ_len]; omega) (by rw [rrZ_len]; exact rrInfo) rrZ_one ?_))
  intro w3 hb3 hg3 _
  rw [List.drop_of_length_le (by rw [rrZ_len]; omega), List.append_nil] at hb3
  have HB3 := below_grown HB2 hg3 HB2.size (Nat.le_refl _)
  clear hg3 A2 HB2
  go_wp2_with fail
  refine ret_cell_tmp rfl w.heap.size rfl hb3 _ underlying119 rfl (by rw [rrZ_len]; exact rrInfo) rfl (.int .i64 x) rfl ?_
  exact ⟨hx, rfl, HB3⟩
 | ok l =>
  simp only [mapE]
  obtain ⟨r, hr⟩ : ∃ r : RR, r = { RR.zero with pri := n1, we := n2, po := n3, tg := l } := ⟨_, rfl⟩
  rw [← hr]
  have k1 : (0 : Int) ≤ a := by omega
  have k2 : (0 : Int) ≤ n := by omega
  have k3 : (a : Int) ≤ m.length := by omega
  have k4 : (n : Int) ≤ (m.length : Int) - a := by omega
  have k5 : (a : Int) + n ≤ m.length := by omega
  have hs0 : ((a : Int) + n).toNat = a + n := by omega
  obtain ⟨z1, hz1⟩ : ∃ z1, z1 = w.alloc (.cells rrZ.toArray 119) := ⟨_, rfl⟩
  obtain ⟨W, hW⟩ : ∃ W, W = z1.alloc (.cells rrZ.toArray 119) := ⟨_, rfl⟩
  have B10 : Blk W w.heap.size 119 rrZ := by rw [hW, hz1]; exact (Blk.new w 119 rrZ).alloc _
  have B12 : Blk W (w.heap.size + 1) 119 rrZ := by rw [hW, hz1]; exact Blk.new' _ _ rrZ _ (by simp)
  have HB : Below w.heap.size w W := by rw [hW, hz1]; exact ((Below.refl _ _).alloc (Nat.le_refl _) _).alloc (by simp) _
  have HW : Hid ((w.alloc (.cells #[.slice none 0 0, .int .i64 0, .int .i64 0, .int .i64 0, .int .i64 0, .int .u8 0, .int .u8 0, .int .u8 0, .int .u8 0, .int .u8 0, .int .u8 0, .int .u8 0, .int .u8 0, .int .u8 0, .int .u8 0, .int .u8 0, .int .u8 0, .int .u8 0, .int .u8 0, .int .u8 0, .int .u8 0, .int .i64 0, .slice none 0 0, .slice none 0 0, .int .i64 0, .int .i64 0, .int .i64 0, .int .i64 0, .int .i64 0, .int .i64 0, .int .i64 0, .int .i64 0, .string ⟨#[]⟩] 119)).alloc (.cells #[.slice none 0 0, .int .i64 0, .int .i64 0, .int .i64 0, .int .i64 0, .int .u8 0, .int .u8 0, .int .u8 0, .int .u8 0, .int .u8 0, .int .u8 0, .int .u8 0, .int .u8 0, .int .u8 0, .int .u8 0, .int .u8 0, .int .u8 0, .int .u8 0, .int .u8 0, .int .u8 0, .int .u8 0, .int .i64 0, .slice none 0 0, .slice none 0 0, .int .i64 0, .int .i64 0, .int .i64 0, .int .i64 0, .int .i64 0, .int .i64 0, .int .i64 0, .int .i64 0, .string ⟨#[]⟩] 119) = W) := Hh (by rw [hW, hz1, rrZ_lit])
  have hWs : W.heap.size = w.heap.size + 1 + 1 := by rw [hW, hz1]; simp
  clear hW hz1
  go_enter func251, ntmps251
  go_wp2_with fail
  rw [HW.out]
  refine (K.out W).mono ?_
  rintro _ w1 ⟨rfl, rfl⟩
  clear K HW
  go_wp2_with fail
  refine (TG.out (w.heap.size + 1) W B12).mono ?_
  rintro _ w2 ⟨wx, gx, v, rfl, B2, nv, g2'⟩
  have g2 := grown_trans gx g2' (.inl rfl)
  have A2 := B10.grown g2 (by simp)
  have HB2 := below_grown HB g2 HB.size (by omega)
  obtain ⟨L, hL⟩ : ∃ L, L = (srvL rrZ n1 n2 n3).set 22 v := ⟨_, rfl⟩
  rw [← hL] at B2
  replace hL : L = rrC nilS v nilS r := by rw [hL, hr]; rfl
  have hwf : r.wf := by rw [hr]; exact ⟨rfl, rfl⟩
  have ll : L.length = 33 := rget_len hL hwf
  have l1 : Hid (∀ v ∈ L, v.oneCell' = true) := Hh (by rw [hL]; exact rrC_one rfl nv.one rfl)
  have OW : Hid (∀ w', Stays w2 w' → RRown w' L r) := Hh (fun w' hS => ⟨nilS, v, nilS, hL, hwf, by rw [hr]; exact NmO.nil _, by rw [hr]; exact nv.stays hS, by rw [hr]; exact NmO.nil _, by rw [hr]; simp [RR.zero]⟩)
  clear hL B12 B10 HB g2 gx g2' TG nv hr
  go_wp2_with (first
   | (refine at_op (.load 119 (.tmp 12)) rfl ?_; go_must (refine wpList_ldB rfl _ _ rfl (w.heap.size + 1) 0 rfl B2 33 (by omega) _ underlying119 rfl rrInfo L (tk0 (by omega)) ?_))
   | (refine at_op (.store 119 (.tmp 10) (.tmp 79)) rfl ?_; go_must (refine wpList_stB rfl _ _ _ rfl w.heap.size 0 rfl L rfl A2 (by rw [rrZ_len]; omega) (by rw [ll]; exact rrInfo) l1.out ?_)))
  intro w3 hb3 hg3 _
  rw [List.drop_of_length_le (by rw [rrZ_len]; omega), List.append_nil] at hb3
  have S3 := Stays.blk hg3 A2 (by decide)
  have HB3 := below_grown HB2 hg3 HB2.size (Nat.le_refl _)
  clear hg3 A2 B2 HB2
  go_wp2_with fail
  refine ret_cell_tmp rfl w.heap.size rfl hb3 _ underlying119 rfl (by rw [ll]; exact rrInfo) rfl (.int .i64 0) rfl ?_
  exact ⟨L, rfl, OW.out _ S3, HB3⟩
set_option maxHeartbeats 1000000 in
theorem rget_srv_no (m : List UInt8) (a n : Nat) (ty cl : Int) (w : World) (hm : a + n ≤ m.length) (hl : m.length ≤ 4000000) (hk : kindR ty cl = 33) (hn : n < 6) :
  Calls prog 251 #[.string (bs m), .int .i64 a, .int .i64 n, .int .i64 ty, .int .i64 cl] w (GetR (.error 5) w) := by
 have K := Hh (fun w => kindOf_any ty cl w)
 rw [hk] at K
 clear hk
 have hl33 : rrZ.length = 33 := rrZ_len
 have TG := Hh (fun g w hb => getSRV_short g rrZ (m.take (a + n)) a w hb hl33 (by simp; omega) (by simp; omega) (by simp; omega))
 have hx : (5 : Int) ≠ 0 := by decide
 clear hn
 have k1 : (0 : Int) ≤ a := by omega
 have k2 : (0 : Int) ≤ n := by omega
 have k3 : (a : Int) ≤ m.length := by omega
 have k4 : (n : Int) ≤ (m.length : Int) - a := by omega
 have k5 : (a : Int) + n ≤ m.length := by omega
 have hs0 : ((a : Int) + n).toNat = a + n := by omega
 obtain ⟨z1, hz1⟩ : ∃ z1, z1 = w.alloc (.cells rrZ.toArray 119) := ⟨_, rfl⟩
 obtain ⟨W, hW⟩ : ∃ W, W = z1.alloc (.cells rrZ.toArray 119) := ⟨_, rfl⟩
 have B10 : Blk W w.heap.size 119 rrZ := by rw [hW, hz1]; exact (Blk.new w 119 rrZ).alloc _
 have B12 : Blk W (w.heap.size + 1) 119 rrZ := by rw [hW, hz1]; exact Blk.new' _ _ rrZ _ (by simp)
 have HB : Below w.heap.size w W := by rw [hW, hz1]; exact ((Below.refl _ _).alloc (Nat.le_refl _) _).alloc (by simp) _
 have HW : Hid ((w.alloc (.cells #[.slice none 0 0, .int .i64 0, .int .i64 0, .int .i64 0, .int .i64 0, .int .u8 0, .int .u8 0, .int .u8 0, .int .u8 0, .int .u8 0, .int .u8 0, .int .u8 0, .int .u8 0, .int .u8 0, .int .u8 0, .int .u8 0, .int .u8 0, .int .u8 0, .int .u8 0, .int .u8 0, .int .u8 0, .int .i64 0, .slice none 0 0, .slice none 0 0, .int .i64 0, .int .i64 0, .int .i64 0, .int .i64 0, .int .i64 0, .int .i64 0, .int .i64 0, .int .i64 0, .string ⟨#[]⟩] 119)).alloc (.cells #[.slice none 0 0, .int .i64 0, .int .i64 0, .int .i64 0, .int .i64 0, .int .u8 0, .int .u8 0, .int .u8 0, .int .u8 0, .int .u8 0, .int .u8 0, .int .u8 0, .int .u8 0, .int .u8 0, .int .u8 0, .int .u8 0, .int .u8 0, .int .u8 0, .int .u8 0, .int .u8 0, .int .u8 0, .int .i64 0, .slice none 0 0, .slice none 0 0, .int .i64 0, .int .i64 0, .int .i64 0, .int .i64 0, .int .i64 0, .int .i64 0, .int .i64 0, .int .i64 0, .string ⟨#[]⟩] 119) = W) := Hh (by rw [hW, hz1, rrZ_lit])
 have hWs : W.heap.size = w.heap.size + 1 + 1 := by rw [hW, hz1]; simp
 clear hW hz1
 go_enter func251, ntmps251
 go_wp2_with fail
 rw [HW.out]
 refine (K.out W).mono ?_
 rintro _ w1 ⟨rfl, rfl⟩
 clear K HW
 go_wp2_with fail
 refine (TG.out (w.heap.size + 1) W B12).mono ?_
 rintro _ w2 ⟨rfl, g2⟩
 have A2 := B10.grown g2 (by simp)
 have HB2 := below_grown HB g2 HB.size (by omega)
 clear B12 B10 HB TG g2
 go_wp2_with (refine at_op (.store 119 (.tmp 10) (.tmp 77)) rfl ?_; go_must (refine wpList_stB rfl _ _ _ rfl w.heap.size 0 rfl rrZ rfl A2 (by rw [rrZ_len]; omega) (by rw [rrZ_len]; exact rrInfo) rrZ_one ?_))
 intro w3 hb3 hg3 _
 rw [List.drop_of_length_le (by rw [rrZ_len]; omega), List.append_nil] at hb3
 have HB3 := below_grown HB2 hg3 HB2.size (Nat.le_refl _)
 clear hg3 A2 HB2
 go_wp2_with fail
 refine ret_cell_tmp rfl w.heap.size rfl hb3 _ underlying119 rfl (by rw [rrZ_len]; exact rrInfo) rfl (.int .i64 5) rfl ?_
 exact ⟨hx, rfl, HB3⟩
def soaO (s : List UInt8) (a : Nat) : Except Int RR := match nameE s a with
 | .error e => .error e
 | .ok (l, p) => match nameE s p with
  | .error e => .error e
  | .ok (l', q) => if q + 20 = s.length then .ok { RR.zero with tg := l, ml := l', nums := numsAt s q } else .error 5
theorem soaO_ret {g : Nat} {s : List UInt8} {a : Nat} {w w' : World} {e : Ending} (h : SoaRet g s a w e w') : match soaO s a with
  | .error x => x ≠ 0 ∧ e = .returned (.int .i64 x) ∧ w.grownBy w' (some g)
  | .ok r => ∃ v v', e = .returned (.int .i64 0) ∧ Blk w' g 119 (rrC nilS v v' r) ∧ r.wf ∧ r.name = [] ∧ r.raw = [] ∧ NmO w' v r.tg ∧ NmO w' v' r.ml ∧ w.grownBy w' (some g) := by
 unfold SoaRet at h
 unfold soaO
 cases h1 : nameE s a with
 | error x => rw [h1] at h; exact h
 | ok y =>
  obtain ⟨l, p⟩ := y
  rw [h1] at h
  simp only at h ⊢
  cases h2 : nameE s p with
  | error x => rw [h2] at h; exact h
  | ok y =>
   obtain ⟨l', q⟩ := y
   rw [h2] at h
   simp only at h ⊢
   by_cases hq : q + 20 = s.length
   ·
    rw [if_pos hq] at h ⊢
    obtain ⟨v, v', h1, h2, h3, h4, h5⟩ := h
    exact ⟨v, v', h1, h2, ⟨rfl, rfl⟩, rfl, rfl, h3, h4, h5⟩
   ·
    rw [if_neg hq] at h ⊢
    exact ⟨by decide, h.1, h.2⟩
set_option maxHeartbeats 1000000 in
theorem rget_soa (m : List UInt8) (a n : Nat) (ty cl : Int) (w : World) (hm : a + n ≤ m.length) (hl : m.length ≤ 4000000) (hk : kindR ty cl = 6) :
  Calls prog 251 #[.string (bs m), .int .i64 a, .int .i64 n, .int .i64 ty, .int .i64 cl] w (GetR (soaO (m.take (a + n)) a) w) := by
 have K := Hh (fun w => kindOf_any ty cl w)
 rw [hk] at K
 clear hk
 have hl33 : rrZ.length = 33 := rrZ_len
 have TG := Hh (fun g w hb => (getSOA_any g (m.take (a + n)) a w hb (by simp; omega) (by simp; omega)).mono (fun e w' h => soaO_ret h))
 cases ho : soaO (m.take (a + n)) a with
 | error x =>
  rw [ho] at TG
  clear ho
  have k1 : (0 : Int) ≤ a := by omega
  have k2 : (0 : Int) ≤ n := by omega
  have k3 : (a : Int) ≤ m.length := by omega
  have k4 : (n : Int) ≤ (m.length : Int) - a := by omega
  have k5 : (a : Int) + n ≤ m.length := by omega
  have hs0 : ((a : Int) + n).toNat = a + n := by omega
  obtain ⟨z1, hz1⟩ : ∃ z1, z1 = w.alloc (.cells rrZ.toArray 119) := ⟨_, rfl⟩
  obtain ⟨W, hW⟩ : ∃ W, W = z1.alloc (.cells rrZ.toArray 119) := ⟨_, rfl⟩
  have B10 : Blk W w.heap.size 119 rrZ := by rw [hW, hz1]; exact (Blk.new w 119 rrZ).alloc _
  have B12 : Blk W (w.heap.size + 1) 119 rrZ := by rw [hW, hz1]; exact Blk.new' _ _ rrZ _ (by simp)
  have HB : Below w.heap.size w W := by rw [hW, hz1]; exact ((Below.refl _ _).alloc (Nat.le_refl _) _).alloc (by simp) _
  have HW : Hid ((w.alloc (.cells #[.slice none 0 0, .int .i64 0, .int .i64 0, .int .i64 0, .int .i64 0, .int .u8 0, .int .u8 0, .int .u8 0, .int .u8 0, .int .u8 0, .int .u8 0, .int .u8 0, .int .u8 0, .int .u8 0, .int .u8 0, .int .u8 0, .int .u8 0, .int .u8 0, .int .u8 0, .int .u8 0, .int .u8 0, .int .i64 0, .slice none 0 0, .slice none 0 0, .int .i64 0, .int .i64 0, .int .i64 0, .int .i64 0, .int .i64 0, .int .i64 0, .int .i64 0, .int .i64 0, .string ⟨#[]⟩] 119)).alloc (.cells #[.slice none 0 0, .int .i64 0, .int .i64 0, .int .i64 0, .int .i64 0, .int .u8 0, .int .u8 0, .int .u8 0, .int .u8 0, .int .u8 0, .int .u8 0, .int .u8 0, .int .u8 0, .int .u8 0, .int .u8 0, .int .u8 0, .int .u8 0, .int .u8 0, .int .u8 0, .int .u8 0, .int .u8 0, .int .i64 0, .slice none 0 0, .slice none 0 0, .int .i64 0, .int .i64 0, .int .i64 0, .int .i64 0, .int .i64 0, .int .i64 0, .int .i64 0, .int .i64 0, .string ⟨#[]⟩] 119) = W) := Hh (by rw [hW, hz1, rrZ_lit])
  have hWs : W.heap.size = w.heap.size + 1 + 1 := by rw [hW, hz1]; simp
  clear hW hz1
  go_enter func251, ntmps251
  go_wp2_with fail
  rw [HW.out]
  refine (K.out W).mono ?_
  rintro _ w1 ⟨rfl, rfl⟩
  clear K HW
  go_wp2_with fail
  refine (TG.out (w.heap.size + 1) W B12).mono ?_
  rintro _ w2 ⟨hx, rfl, g2⟩
  have hxz : (x != 0) = true := by simpa using hx
  have A2 := B10.grown g2 (by simp)
  have HB2 := below_grown HB g2 HB.size (by omega)
  clear B12 B10 HB TG g2
  go_wp2_with (refine at_op (.store 119 (.tmp 10) (.tmp 77)) rfl ?_; go_must (refine wpList_stB rfl _ _ _ rfl w.heap.size 0 rfl rrZ rfl A2 (by rw [rrZ_len]; omega) (by rw [rrZ_len]; exact rrInfo) rrZ_one ?_))
  intro w3 hb3 hg3 _
  rw [List.drop_of_length_le (by rw [rrZ_len]; omega), List.append_nil] at hb3
  have HB3 := below_grown HB2 hg3 HB2.size (Nat.le_refl _)
  clear hg3 A2 HB2
  go_wp2_with fail
  refine ret_cell_tmp rfl w.heap.size rfl hb3 _ underlying119 rfl (by rw [rrZ_len]; exact rrInfo) rfl (.int .i64 x) rfl ?_
  exact ⟨hx, rfl, HB3⟩
 | ok r =>
  rw [ho] at TG
  clear ho
  have k1 : (0 : Int) ≤ a := by omega
  have k2 : (0 : Int) ≤ n := by omega
  have k3 : (a : Int) ≤ m.length := by omega
  have k4 : (n : Int) ≤ (m.length : Int) - a := by omega
  have k5 : (a : Int) + n ≤ m.length := by omega
  have hs0 : ((a : Int) + n).toNat = a + n := by omega
  obtain ⟨z1, hz1⟩ : ∃ z1, z1 = w.alloc (.cells rrZ.toArray 119) := ⟨_, rfl⟩
  obtain ⟨W, hW⟩ : ∃ W, W = z1.alloc (.cells rrZ.toArray 119) := ⟨_, rfl⟩
  have B10 : Blk W w.heap.size 119 rrZ := by rw [hW, hz1]; exact (Blk.new w 119 rrZ).alloc _
  have B12 : Blk W (w.heap.size + 1) 119 rrZ := by rw [hW, hz1]; exact Blk.new' _ _ rrZ _ (by simp)
  have HB : Below w.heap.size w W := by rw [hW, hz1]; exact ((Below.refl _ _).alloc (Nat.le_refl _) _).alloc (by simp) _
  have HW : Hid ((w.alloc (.cells #[.slice none 0 0, .int .i64 0, .int .i64 0, .int .i64 0, .int .i64 0, .int .u8 0, .int .u8 0, .int .u8 0, .int .u8 0, .int .u8 0, .int .u8 0, .int .u8 0, .int .u8 0, .int .u8 0, .int .u8 0, .int .u8 0, .int .u8 0, .int .u8 0, .int .u8 0, .int .u8 0, .int .u8 0, .int .i64 0, .slice none 0 0, .slice none 0 0, .int .i64 0, .int .i64 0, .int .i64 0, .int .i64 0, .int .i64 0, .int .i64 0, .int .i64 0, .int .i64 0, .string ⟨#[]⟩] 119)).alloc (.cells #[.slice none 0 0, .int .i64 0, .int .i64 0, .int .i64 0, .int .i64 0, .int .u8 0, .int .u8 0, .int .u8 0, .int .u8 0, .int .u8 0, .int .u8 0, .int .u8 0, .int .u8 0, .int .u8 0, .int .u8 0, .int .u8 0, .int .u8 0, .int .u8 0, .int .u8 0, .int .u8 0, .int .u8 0, .int .i64 0, .slice none 0 0, .slice none 0 0, .int .i64 0, .int .i64 0, .int .i64 0, .int .i64 0, .int .i64 0, .int .i64 0, .int .i64 0, .int .i64 0, .string ⟨#[]⟩] 119) = W) := Hh (by rw [hW, hz1, rrZ_lit])
  have hWs : W.heap.size = w.heap.size + 1 + 1 := by rw [hW, hz1]; simp
  clear hW hz1
  go_enter func251, ntmps251
  go_wp2_with fail
  rw [HW.out]
  refine (K.out W).mono ?_
  rintro _ w1 ⟨rfl, rfl⟩
  clear K HW
  go_wp2_with fail
  refine (TG.out (w.heap.size + 1) W B12).mono ?_
  rintro _ w2 ⟨v, v', rfl, B2, hwf, hrn, hrr, nv, nv', g2⟩
  have A2 := B10.grown g2 (by simp)
  have HB2 := below_grown HB g2 HB.size (by omega)
  obtain ⟨L, hL⟩ : ∃ L, L = rrC nilS v v' r := ⟨_, rfl⟩
  rw [← hL] at B2
  have ll : L.length = 33 := rget_len hL hwf
  have l1 : Hid (∀ v ∈ L, v.oneCell' = true) := Hh (by rw [hL]; exact rrC_one rfl nv.one nv'.one)
  have OW : Hid (∀ w', Stays w2 w' → RRown w' L r) := Hh (fun w' hS => ⟨nilS, v, v', hL, hwf, by rw [hrn]; exact NmO.nil _, nv.stays hS, nv'.stays hS, by rw [hrr]; simp⟩)
  clear hL B12 B10 HB g2 TG nv nv' hwf hrn hrr
  go_wp2_with (first
   | (refine at_op (.load 119 (.tmp 12)) rfl ?_; go_must (refine wpList_ldB rfl _ _ rfl (w.heap.size + 1) 0 rfl B2 33 (by omega) _ underlying119 rfl rrInfo L (tk0 (by omega)) ?_))
   | (refine at_op (.store 119 (.tmp 10) (.tmp 79)) rfl ?_; go_must (refine wpList_stB rfl _ _ _ rfl w.heap.size 0 rfl L rfl A2 (by rw [rrZ_len]; omega) (by rw [ll]; exact rrInfo) l1.out ?_)))
  intro w3 hb3 hg3 _
  rw [List.drop_of_length_le (by rw [rrZ_len]; omega), List.append_nil] at hb3
  have S3 := Stays.blk hg3 A2 (by decide)
  have HB3 := below_grown HB2 hg3 HB2.size (Nat.le_refl _)
  clear hg3 A2 B2 HB2
  go_wp2_with fail
  refine ret_cell_tmp rfl w.heap.size rfl hb3 _ underlying119 rfl (by rw [ll]; exact rrInfo) rfl (.int .i64 0) rfl ?_
  exact ⟨L, rfl, OW.out _ S3, HB3⟩
theorem kindR_seven (ty cl : Int) : kindR ty cl = 1 ∨ kindR ty cl = 28 ∨ kindR ty cl = 5 ∨ kindR ty cl = 12 ∨ kindR ty cl = 33 ∨ kindR ty cl = 6 ∨ kindR ty cl = 0 := by
 unfold kindR
 split
 ·
  rename_i h; omega
 ·
  simp
theorem rget_any (m : List UInt8) (a n : Nat) (ty cl : Int) (w : World) (hm : a + n ≤ m.length) (hl : m.length ≤ 4000000) :
  Calls prog 251 #[.string (bs m), .int .i64 a, .int .i64 n, .int .i64 ty, .int .i64 cl] w (GetR (getR m a n ty cl) w) := by
 have hd : ((m.take (a + n)).drop a).length = n := by simp; omega
 rcases kindR_seven ty cl with h | h | h | h | h | h | h
 ·
  by_cases hn : n = 4
  ·
   have := rget_adr 1 4 (.inl ⟨rfl, rfl⟩) m a n ty cl w hm hl h (by rw [hn]; rfl)
   have e : getR m a n ty cl = .ok (adR 4 ((m.take (a + n)).drop a)) := by
    unfold getR adR; rw [if_pos h, if_pos hn, hd, hn]
   rw [e]; exact this
  ·
   have := rget_adr_no 1 (.inl rfl) m a n ty cl w hm hl h (by simpa using hn)
   have e : getR m a n ty cl = .error 5 := by unfold getR; rw [if_pos h, if_neg hn]
   rw [e]; exact this
 ·
  have h1 : ¬ kindR ty cl = 1 := by omega
  by_cases hn : n = 16
  ·
   have := rget_adr 28 6 (.inr ⟨rfl, rfl⟩) m a n ty cl w hm hl h (by rw [hn]; rfl)
   have e : getR m a n ty cl = .ok (adR 6 ((m.take (a + n)).drop a)) := by
    unfold getR adR; rw [if_neg h1, if_pos h, if_pos hn, hd, hn, Nat.sub_self, List.replicate_zero, List.append_nil]
   rw [e]; exact this
  ·
   have := rget_adr_no 28 (.inr rfl) m a n ty cl w hm hl h (by simpa using hn)
   have e : getR m a n ty cl = .error 5 := by unfold getR; rw [if_neg h1, if_pos h, if_neg hn]
   rw [e]; exact this
 ·
  have := rget_name 5 (.inl rfl) m a n ty cl w hm hl h _ rfl
  have e : getR m a n ty cl = mapE (fun l => { RR.zero with tg := l }) (targAt (m.take (a + n)) a) := by
   unfold getR; rw [if_neg (by omega), if_neg (by omega), if_pos (.inl h)]; cases targAt (m.take (a + n)) a <;> rfl
  rw [e]; exact this
 ·
  have := rget_name 12 (.inr rfl) m a n ty cl w hm hl h _ rfl
  have e : getR m a n ty cl = mapE (fun l => { RR.zero with tg := l }) (targAt (m.take (a + n)) a) := by
   unfold getR; rw [if_neg (by omega), if_neg (by omega), if_pos (.inr h)]; cases targAt (m.take (a + n)) a <;> rfl
  rw [e]; exact this
 ·
  by_cases hn : n < 6
  ·
   have := rget_srv_no m a n ty cl w hm hl h hn
   have e : getR m a n ty cl = .error 5 := by unfold getR; rw [if_neg (by omega), if_neg (by omega), if_neg (by omega), if_pos h, if_pos hn]
   rw [e]; exact this
  ·
   have := rget_srv m a n ty cl w hm hl h (by omega) _ rfl
   have e : getR m a n ty cl = mapE (fun l => { RR.zero with pri := numB (((m.take (a + n)).drop a).take 2), we := numB ((((m.take (a + n)).drop a).drop 2).take 2), po := numB ((((m.take (a + n)).drop a).drop 4).take 2), tg := l }) (targAt (m.take (a + n)) (a + 6)) := by
    unfold getR; rw [if_neg (by omega), if_neg (by omega), if_neg (by omega), if_pos h, if_neg hn]; cases targAt (m.take (a + n)) (a + 6) <;> rfl
   rw [e]; exact this
 ·
  have := rget_soa m a n ty cl w hm hl h
  have e : getR m a n ty cl = soaO (m.take (a + n)) a := by
   unfold getR; rw [if_neg (by omega), if_neg (by omega), if_neg (by omega), if_neg (by omega), if_pos h]; rfl
  rw [e]; exact this
 ·
  have := rget_raw m a n ty cl w hm hl h
  have e : getR m a n ty cl = .ok { RR.zero with raw := (m.take (a + n)).drop a } := by
   unfold getR; rw [if_neg (by omega), if_neg (by omega), if_neg (by omega), if_neg (by omega), if_neg (by omega)]
  rw [e]; exact this
end Go.Proofs.YthnbcmlnpdabhaaGreat
