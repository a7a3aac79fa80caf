/-
  Layer 32 (pair): the addresses of all that found something.
-/
import Derived.Test.YteimenplbanooaaGreatDoorRBJq
import Derived.Test.YteimenplbanooaaGreatDoorRBKq
namespace Go.Proofs.YteimenplbanooaaGreatDoor
open _root_.Go.Proofs.Tryz
open Go.RowKit Go.Maps
set_option maxRecDepth 100000
set_option linter.unusedVariables false
set_option linter.unusedSimpArgs false
theorem wpList_mapA (w : World) {ops : Array Oper} {rest : List Oper} {o : Oper} {ac : Act} {Q : Exit → Act → World → Prop} (hg : o.guard = none) (m x v : Operand) (hop : o.op = Op.mapUpdate 348 m x v)
  (b n : Nat) (xs : List Adr) (a : Adr) (hm : ac.eval m = .map (some b)) (hx : ac.eval x = .agg a.cells.toArray) (hv : ac.eval v = .int .i64 1) (h : MapA w b n xs) (ha : adF a) (hn : n < maxLen)
  (hK : ∀ w', MapA w' b (n + 1) (xs ++ [a]) → w.grownBy w' (some b) → wpList prog ops Q rest (ac.put o.dst undef) w') : wpList prog ops Q (o :: rest) ac w := by
 refine wpList_plain hg fun K' hK' => ?_
 obtain ⟨w', hrun, r1, r2⟩ := h.store a ha hn
 unfold Oper.wp
 simp [execOp, hop, hm, hx, hv, hrun, Result.andThen]
 exact hK' _ _ (hK w' r1 r2)
theorem MapA.ne_own {α : Type} {w : World} {b n B k : Nat} {xs : List Adr} {e : TypeId} {R : List Value → α → Prop} {v : Value} {l : List α} (h : MapA w b n xs) (ho : LOwn w B e k R v l) : some b ≠ v.ownBlock := by
 obtain ⟨css, ho, _⟩ := ho
 rcases ho.2 with ⟨rfl, _⟩ | ⟨g, cap, cur, rfl, _, hh, _⟩
 ·
  simp [Value.ownBlock]
 ·
  intro e
  have : b = g := by simpa [Value.ownBlock] using e
  subst this
  obtain ⟨D, ⟨es, cl, hm, _⟩, _⟩ := h
  rw [hh] at hm; cases hm
theorem LOwn.map {α : Type} {w w' : World} {b B k : Nat} {e : TypeId} {R : List Value → α → Prop} {v : Value} {l : List α} (ho : LOwn w B e k R v l) (hg : w.grownBy w' (some b)) (hne : some b ≠ v.ownBlock) : LOwn w' B e k R v l :=
 ho.stays (fun _ x => World.ownsRow.kept x hg (.inr (fun c => hne c.symm))) (fun _ _ x => x)
theorem pres4 : (prog.info? 183).map (·.size) = some 4 := by kernel_rfl
theorem adsI1 : (prog.info? 33).map (·.size) = some 1 := by kernel_rfl
def AnFrom (l : List Td) (a : Adr) : Prop := ∃ t ∈ l, t.vd = 1 ∧ ∃ f, followQ t.q t.m.an 16 0 t.q.name none = .ok f ∧ ∃ r ∈ f.recs, r.ad = a
structure AnX (w : World) (g3 gm : Nat) (vn : Value) (ttl : Int) (va : Value) (xs : List Adr) : Prop where
 b3 : Blk w g3 183 [.int .i64 1, va, vn, .int .i64 ttl]
 own : AdsO w g3 va xs
 map : MapA w gm xs.length xs
 nd : xs.Nodup
 ln : xs.length ≤ 64
theorem AnX.below {w w' : World} {g3 gm : Nat} {vn va : Value} {ttl : Int} {xs : List Adr} (h : AnX w g3 gm vn ttl va xs) (k : Below w.heap.size w w') : AnX w' g3 gm vn ttl va xs :=
 ⟨h.b3.below k h.b3.lt, LOwn.below h.own k (fun _ _ x => x), h.map.kept (grown_of_below k none) (by simp), h.nd, h.ln⟩
theorem AnX.put {w w' : World} {g3 gm : Nat} {vn vn' va : Value} {ttl ttl' : Int} {xs : List Adr} (h : AnX w g3 gm vn ttl va xs) (hg : w.grownBy w' (some g3)) (hb : Blk w' g3 183 [.int .i64 1, va, vn', .int .i64 ttl']) : AnX w' g3 gm vn' ttl' va xs :=
 ⟨hb, h.own.blk hg h.b3 (by decide), h.map.kept hg (by intro c; injection c with c; exact h.map.ne_blk h.b3 c), h.nd, h.ln⟩
def tdZ : List Value := qC nilS ⟨[], 0, 0⟩ ++ (Value.int .i64 0 :: msgZ)
theorem tdZ_len : tdZ.length = 18 := by simp [tdZ, qC, msgZ_len]
def TdOk (t : Td) : Prop := t.q.name.length ≤ 100000 ∧ (t.vd = 1 → ∃ f, followQ t.q t.m.an 16 0 t.q.name none = .ok f ∧ ∀ r ∈ f.recs, adF r.ad)
def AnsRet (l : List Td) (w : World) (e : Ending) (w' : World) : Prop := ∃ va vn ttl xs, e = .returned (.agg [.int .i64 1, va, vn, .int .i64 ttl].toArray) ∧ vn.oneCell' = true ∧ AdsO w' 0 va xs ∧ ((∃ t ∈ l, t.vd = 1) → xs ≠ []) ∧ xs.Nodup ∧ xs.length ≤ 64 ∧ (∀ a ∈ xs, AnFrom l a) ∧ Below w.heap.size w w'
set_option maxHeartbeats 8000000 in
theorem panswer_any (w : World) (B : Nat) (A : Option Addr) (c : Nat) (l : List Td) (h : TdsO w B (.slice A l.length c) l) (hl : l.length ≤ 2) (hok : ∀ t ∈ l, TdOk t) :
  Calls prog 281 #[.slice A l.length c] w (AnsRet l w) := by
 have HH := Lib.hid h
 have HOK := Hh hok
 have hmm := @run_makeMap prog
 obtain ⟨n, hn⟩ : ∃ n, Hid (l.length = n) := ⟨_, Hh rfl⟩
 have HHn := HH
 rw [hn.out] at hl ⊢
 clear h hok
 go_enter func281, ntmps281
 go_wp2_with fail
 clear hmm
 have HB0 : Below w.heap.size w (((w.alloc (.cells #[.int .i64 0, .slice none 0 0, .slice none 0 0, .int .i64 0] 183)).alloc (.cells #[.int .i64 1, .slice none 0 0, .slice none 0 0, .int .i64 0] 183)).alloc (.map #[] 0)) := (((Below.refl _ _).alloc (Nat.le_refl _) _).alloc (by simp) _).alloc (by simp; omega) _
 have hZ0 : Blk (((w.alloc (.cells #[.int .i64 0, .slice none 0 0, .slice none 0 0, .int .i64 0] 183)).alloc (.cells #[.int .i64 1, .slice none 0 0, .slice none 0 0, .int .i64 0] 183)).alloc (.map #[] 0)) w.heap.size 183 [.int .i64 0, nilS, nilS, .int .i64 0] := ((Blk.new w 183 [.int .i64 0, nilS, nilS, .int .i64 0]).alloc _).alloc _
 have AX0 : AnX (((w.alloc (.cells #[.int .i64 0, .slice none 0 0, .slice none 0 0, .int .i64 0] 183)).alloc (.cells #[.int .i64 1, .slice none 0 0, .slice none 0 0, .int .i64 0] 183)).alloc (.map #[] 0)) (w.heap.size + 1) (w.heap.size + 1 + 1) nilS 0 nilS [] :=
  ⟨(Blk.new' (w.alloc (.cells #[.int .i64 0, .slice none 0 0, .slice none 0 0, .int .i64 0] 183)) 183 [.int .i64 1, nilS, nilS, .int .i64 0] (w.heap.size + 1) (by simp)).alloc _, LOwn.nil _ _ _ _ _, by
   have := MapA.made ((w.alloc (.cells #[.int .i64 0, .slice none 0 0, .slice none 0 0, .int .i64 0] 183)).alloc (.cells #[.int .i64 1, .slice none 0 0, .slice none 0 0, .int .i64 0] 183))
   simpa using this, List.nodup_nil, Nat.zero_le _⟩
 obtain ⟨gm, hgm⟩ : ∃ gm, Hid (w.heap.size + 1 + 1 = gm) := ⟨_, Hh rfl⟩
 obtain ⟨g3, hg3⟩ : ∃ g3, Hid (w.heap.size + 1 = g3) := ⟨_, Hh rfl⟩
 have hg3' : w.heap.size < g3 := by rw [← hg3.out]; omega
 have hgm' : w.heap.size < gm := by rw [← hgm.out]; omega
 rw [hgm.out, hg3.out] at AX0
 rw [hgm.out, hg3.out]
 obtain ⟨W0, hW0⟩ : ∃ W0, Hid ((((w.alloc (.cells #[.int .i64 0, .slice none 0 0, .slice none 0 0, .int .i64 0] 183)).alloc (.cells #[.int .i64 1, .slice none 0 0, .slice none 0 0, .int .i64 0] 183)).alloc (.map #[] 0)) = W0) := ⟨_, Hh rfl⟩
 rw [hW0.out] at AX0 HB0 hZ0
 rw [hW0.out]
 have HAX0 := Hh AX0
 clear AX0 hg3 hgm hW0
 go_loopw [5, 16] (fun sv iv wr => ∃ (i : Nat) (sb : Bool) (va : Value) (An : Option Addr) (nn cn : Nat) (ttl : Int) (xs : List Adr), i ≤ n ∧ sv = .bool sb ∧ iv = .int .i64 i ∧ Hid (AnX wr g3 gm (.slice An nn cn) ttl va xs) ∧ Hid (∀ a ∈ xs, AnFrom l a) ∧ Hid ((∃ t ∈ l.take i, t.vd = 1) → xs ≠ []) ∧ Below w.heap.size w wr ∧ Blk wr w.heap.size 183 [.int .i64 0, nilS, nilS, .int .i64 0]) (fun _ iv _ => n - (intOf iv).toNat)
 case atStart => exact ⟨0, false, nilS, none, 0, 0, 0, [], Nat.zero_le _, rfl, rfl, HAX0, Hh (fun a h => by cases h), Hh (fun h => by obtain ⟨t, ht, _⟩ := h; cases ht), HB0, hZ0⟩
 clear HAX0 HB0 hZ0
 obtain ⟨i, sb, va, An, nn, cn, ttl, xs, hi, rfl, rfl, HX, HF, HE, HB, BZ⟩ := hrel
 by_cases hlt : i < n
 case pos =>
  have hlt' : (i : Int) < n := by omega
  have hlp : i < l.length := by rw [hn.out]; exact hlt
  obtain ⟨gs, hA, hgs, hrow⟩ := LOwn.at_ (R := TdO w) (k := 18) (fun _ _ x => x.len) HH.out (by omega)
  obtain ⟨cs, hcs0, hT⟩ := hrow i hlp
  have key : ∃ off, A = some ⟨gs, off, none⟩ ∧ w.rangeAt gs (off + i * 18) cs := ⟨0, hA, hcs0⟩
  clear hA hcs0
  obtain ⟨off, hA, hcs⟩ := key
  have re := range_below hcs HB hgs
  have hcl := hT.len
  have hT1 := hT.one
  have hT3 := hT.vd
  obtain ⟨hq5, hfo⟩ := HOK.out l[i] (List.getElem_mem hlp)
  have htk : l.take (i + 1) = l.take i ++ [l[i]] := List.take_succ_eq_append_getElem hlp
  have hmem : l[i] ∈ l := List.getElem_mem hlp
  obtain ⟨t, ht⟩ : ∃ t, l[i] = t := ⟨_, rfl⟩
  rw [ht] at hT hT3 hq5 hfo htk hmem
  have HTK := Hh htk
  have HFO := Hh hfo
  have HM := Hh hmem
  have HT := Hh hT
  have Zt := Blk.new wr 284 tdZ
  have kz : Below wr.heap.size wr (wr.alloc (.cells tdZ.toArray 284)) := (Below.refl _ _).alloc (Nat.le_refl _) _
  have hBs := HB.size
  subst hA
  clear hrow hcs ht htk hfo hmem hT hlp
  go_upto_block 1 with fail
  go_cut [5] (fun sv wx => ∃ (sb : Bool) (va : Value) (An : Option Addr) (nn cn : Nat) (ttl : Int) (xs : List Adr), sv = .bool sb ∧ Hid (AnX wx g3 gm (.slice An nn cn) ttl va xs) ∧ Hid (∀ a ∈ xs, AnFrom l a) ∧ Hid ((∃ t ∈ l.take (i + 1), t.vd = 1) → xs ≠ []) ∧ Below w.heap.size w wx ∧ Blk wx w.heap.size 183 [.int .i64 0, nilS, nilS, .int .i64 0])
  case first =>
   go_wp2_with (first
    | (refine at_op (.load 284 (.tmp 18)) rfl ?_; go_must (refine wpList_ldR rfl 284 (.tmp 18) rfl gs (off + i * 18) rfl cs re _ underlying284 rfl (by rw [hcl]; exact tdI18) ?_))
    | (refine at_op (.store 284 (.tmp 7) (.tmp 19)) rfl ?_; go_must (refine wpList_stB rfl _ _ _ rfl wr.heap.size 0 rfl cs rfl Zt (by rw [hcl, tdZ_len]; decide) (by rw [hcl]; exact tdI18) hT1 ?_)))
   intro w1 B1 g1 s1
   have C1 : Blk w1 wr.heap.size 284 cs := by
    have e : cs ++ tdZ.drop 18 = cs := by rw [List.drop_of_length_le (by rw [tdZ_len]; exact Nat.le_refl _), List.append_nil]
    have B1' : Blk w1 wr.heap.size 284 (cs ++ tdZ.drop 18) := by simpa [hcl] using B1
    rwa [e] at B1'
   have k1 : Below wr.heap.size wr w1 := below_grown kz g1 kz.size (Nat.le_refl _)
   have H1 := below_then HB hBs k1
   have X1 := HX.out.below k1
   have Z1 := BZ.below k1 BZ.lt
   have d3 := C1.cell_ 3 hT3
   clear Zt kz B1 g1 s1 HX BZ re
   obtain ⟨gt, hgt⟩ : ∃ gt, wr.heap.size = gt := ⟨_, rfl⟩
   rw [hgt] at C1 d3 ⊢
   clear hgt
   by_cases hvd : t.vd = 1
   case neg =>
    have hv' : (t.vd != 1) = true := by simpa using hvd
    have HE2 : Hid ((∃ t ∈ l.take (i + 1), t.vd = 1) → xs ≠ []) := Hh (by
     rw [HTK.out]
     rintro ⟨t', ht', e'⟩
     rcases List.mem_append.1 ht' with h | h
     ·
      exact HE.out ⟨t', h, e'⟩
     ·
      simp only [List.mem_singleton] at h
      subst h
      exact absurd e' hvd)
    have HX1 := Hh X1
    clear hvd HTK HE X1 HFO
    generalize t.vd = tv at *
    go_wp2_with fail
    go_meet
    case rel => exact ⟨sb, va, An, nn, cn, ttl, xs, rfl, HX1, HF, HE2, H1, Z1⟩
   case pos =>
    obtain ⟨f, hf, hfa⟩ := HFO.out hvd
    obtain ⟨vq, ds, hcs', hNq, hM⟩ := HT.out
    obtain ⟨Aq, cq, hvq, hNR⟩ := hNq.form
    obtain ⟨mq, ma, mu, me, hds, k2, kA, k3, k4, l1, lA, _⟩ := hM
    obtain ⟨Aa, ca, hva⟩ := LOwn.form kA
    subst hvq hva
    have d15 : w1.cell? ⟨gt, 15, none⟩ = some (.slice Aa t.m.an.length ca) := C1.cell_ 15 (by rw [hcs', hds]; rfl)
    have hQ : (cs.drop 0).take 3 = qC (.slice Aq t.q.name.length cq) t.q := by rw [hcs']; rfl
    have FOL := Hh (follow_any t.q Aq Aa cq ca t.m.an w1 (hNR.below H1) hq5 (RRsOwn.below kA H1) lA)
    rw [hf] at FOL
    unfold FolRet at FOL
    obtain ⟨fr1, fr2⟩ := followQ_recs _ _ _ _ _ _ _ hf
    have hrl : f.recs.length ≤ 65535 := by rw [fr2]; exact Nat.le_trans (List.length_filter_le _ _) lA
    have HFR : Hid (∀ r ∈ f.recs, AnFrom l r.ad) := Hh (fun r hr => ⟨t, HM.out, hvd, f, hf, r, hr, rfl⟩)
    have HFA := Hh hfa
    have hfne := Hh fr1
    rw [hvd] at d3
    obtain ⟨Q, hQ'⟩ : ∃ Q, qC (.slice Aq t.q.name.length cq) t.q = Q := ⟨_, rfl⟩
    rw [hQ'] at hQ
    have FOL2 : Hid (Calls prog 224 #[.agg Q.toArray, .slice Aa t.m.an.length ca] w1 (fun e w' => ∃ An cn A c, e = .returned (.tuple #[.agg #[.slice An f.name.length cn, .slice A f.recs.length c, .int .i64 (f.ttl.getD 0), .int .i64 f.links], .int .i64 0]) ∧ Txts w' (.slice An f.name.length cn) f.name ∧ RRsOwn w' 0 (.slice A f.recs.length c) f.recs ∧ Below w1.heap.size w1 w')) := Hh (by rw [← hQ']; exact FOL.out)
    have HX1 := Hh X1
    clear FOL hcs' hNq hNR hds k2 kA k3 k4 l1 lA hf hfa fr1 fr2 hvd HTK HE HFO X1 hQ' hT3
    generalize t.m.an.length = an at *
    obtain ⟨nr, hnr⟩ : ∃ nr, Hid (f.recs.length = nr) := ⟨_, Hh rfl⟩
    rw [hnr.out] at FOL2 hrl
    generalize f.name.length = fnl at *
    generalize f.ttl.getD 0 = ft at *
    generalize (f.links : Int) = fk at *
    go_wp2_with (refine at_op (.load 218 (.tmp 25)) rfl ?_; go_must (refine wpList_ldB rfl _ _ rfl gt 0 rfl C1 3 (by omega) _ underlying218 rfl qInfo Q hQ ?_))
    refine FOL2.out.mono ?_
    rintro _ w2 ⟨Af, cf, Ar, cr, rfl, hTx, hRR, b2⟩
    have k3 : Below w2.heap.size w2 (w2.alloc (.cells #[.slice Af fnl cf, .slice Ar nr cr, .int .i64 ft, .int .i64 fk] 334)) := (Below.refl _ _).alloc (Nat.le_refl _) _
    have FB := Blk.new w2 334 [.slice Af fnl cf, .slice Ar nr cr, .int .i64 ft, .int .i64 fk]
    have X3 := (HX1.out.below b2).below k3
    have H2 := below_then H1 H1.size b2
    have H3 := below_then H2 H2.size k3
    have Z3 := (Z1.below b2 Z1.lt).below k3 (Z1.below b2 Z1.lt).lt
    have HRR := Hh hRR
    clear b2 hTx C1 d3 d15 HX1 FOL2 H1 H2 k1 Z1 hRR
    go_upto_if 35 with fail
    obtain ⟨gf, hgf⟩ : ∃ gf, Hid (w2.heap.size = gf) := ⟨_, Hh rfl⟩
    obtain ⟨W3, hW3⟩ : ∃ W3, Hid ((w2.alloc (.cells #[.slice Af fnl cf, .slice Ar nr cr, .int .i64 ft, .int .i64 fk] 334)) = W3) := ⟨_, Hh rfl⟩
    rw [hW3.out] at X3 H3 Z3 FB k3 ⊢
    rw [hgf.out] at FB ⊢
    have e0 := FB.cell_ 0 (u := .slice Af fnl cf) rfl
    have e2 := FB.cell_ 2 (u := .int .i64 ft) rfl
    have c2 := X3.b3.cell_ 2 (u := .slice An nn cn) rfl
    have c3 := X3.b3.cell_ 3 (u := .int .i64 ttl) rfl
    have f2 := X3.b3.frozen 2
    have f3 := X3.b3.frozen 3
    have hl3 := X3.b3.lt
    have hgg : gf ≠ g3 := blk_ne FB X3.b3 (by decide)
    have hgg' : g3 ≠ gf := fun c => hgg c.symm
    go_cut [] (fun wx => ∃ (An : Option Addr) (nn cn : Nat) (ttl : Int), AnX wx g3 gm (.slice An nn cn) ttl va xs ∧ W3.grownBy wx (some g3))
    case first =>
     cases sb with
     | true =>
      go_wp2_with fail
      go_meet
      case rel => exact ⟨An, nn, cn, ttl, X3, World.grownBy.refl _ _⟩
     | false =>
      go_wp2_with fail
      go_region
      go_wp2_with fail
      go_meet
      case rel => exact ⟨Af, fnl, cf, ft, X3.put (grown_drew (grown_set (grown_set (World.grownBy.refl _ _) 2 _) 3 _)) ((X3.b3.set 2 (.slice Af fnl cf)).set 3 (.int .i64 ft)), grown_drew (grown_set (grown_set (World.grownBy.refl _ _) 2 _) 3 _)⟩
    obtain ⟨An4, nn4, cn4, ttl4, X4, G4⟩ := hcut
    obtain ⟨W4, rfl⟩ : ∃ W4, W4 = wc := ⟨_, rfl⟩
    have F4 := FB.grown G4 (by simpa using hgg)
    have R4 := RRsOwn.blk (RRsOwn.below HRR.out (by rw [← hW3.out]; exact (Below.refl _ _).alloc (Nat.le_refl _) _ : Below w2.heap.size w2 W3)) G4 X3.b3 (by decide) (by decide)
    have H4 := below_grown H3 G4 H3.size (by omega)
    have Z4 := Z3.grown G4 (by simp; omega)
    clear X3 H3 Z3 FB k3 hW3 hgf e0 e2 c2 c3 f2 f3 hl3 HRR G4
    have e2 := F4.cell_ 2 (u := .int .i64 ft) rfl
    have e1 := F4.cell_ 1 (u := .slice Ar nr cr) rfl
    have c3 := X4.b3.cell_ 3 (u := .int .i64 ttl4) rfl
    have f3 := X4.b3.frozen 3
    have hl3 := X4.b3.lt
    go_upto_region 12 with fail
    go_cut [] (fun wx => ∃ (ttl : Int), AnX wx g3 gm (.slice An4 nn4 cn4) ttl va xs ∧ W4.grownBy wx (some g3))
    case first =>
     go_wp2_with fail
     ·
      go_meet
      case rel => exact ⟨ft, X4.put (grown_set (World.grownBy.refl _ _) 3 _) (X4.b3.set 3 (.int .i64 ft)), grown_set (World.grownBy.refl _ _) 3 _⟩
     ·
      go_meet
      case rel => exact ⟨ttl4, X4.put (grown_set (World.grownBy.refl _ _) 3 _) (X4.b3.set 3 (.int .i64 ttl4)), grown_set (World.grownBy.refl _ _) 3 _⟩
    obtain ⟨ttl5, X5, G5⟩ := hcut
    obtain ⟨W5, rfl⟩ : ∃ W5, W5 = wc := ⟨_, rfl⟩
    have F5 := F4.grown G5 (by simpa using hgg)
    have R5 := RRsOwn.blk R4 G5 X4.b3 (by decide) (by decide)
    have H5 := below_grown H4 G5 H4.size (by omega)
    have Z5 := Z4.grown G5 (by simp; omega)
    have e1 := F5.cell_ 1 (u := .slice Ar nr cr) rfl
    clear X4 H4 Z4 F4 R4 G5 e2 c3 f3 hl3
    have ROW : Hid (∀ j (hj : j < nr), ∃ gr off, Ar = some ⟨gr, off, none⟩ ∧ (∃ L, Blk W5 gr 96 L) ∧ ∃ (hj' : j < f.recs.length), ∃ cs, W5.rangeAt gr (off + j * 33) cs ∧ cs.length = 33 ∧ (∀ v ∈ cs, v.oneCell' = true) ∧ (cs.drop 4).take 18 = f.recs[j].ad.cells) := Hh (by
     intro j hj
     have hj' : j < f.recs.length := by rw [hnr.out]; exact hj
     have R5' := R5
     rw [← hnr.out] at R5'
     obtain ⟨gr, q1, q2, q3⟩ := R5'.at_ (fun _ _ x => x.len) (by omega)
     subst q1
     obtain ⟨L, hL⟩ := LOwn.hasBlk R5' (by omega)
     obtain ⟨cs, r1, r2⟩ := q3 j hj'
     refine ⟨gr, 0, rfl, ⟨L, hL⟩, hj', cs, r1, r2.len, r2.one, ?_⟩
     obtain ⟨v1, v2, v3, e, hw, _⟩ := r2
     rw [e]
     exact rrC_ad hw)
    have HX5 := Hh X5
    clear R5 X5
    have hgmg : gm ≠ g3 := HX5.out.map.ne_blk HX5.out.b3
    go_wp2_with fail
    go_loopw [51] (fun iv wx => ∃ (j : Nat) (va : Value) (ys : List Adr), j ≤ nr ∧ iv = .int .i64 j ∧ Hid (AnX wx g3 gm (.slice An4 nn4 cn4) ttl5 va ys) ∧ Hid (∀ a ∈ ys, AnFrom l a) ∧ Hid ((xs ≠ [] ∨ 0 < j) → ys ≠ []) ∧ Below w.heap.size w wx ∧ Blk wx w.heap.size 183 [.int .i64 0, nilS, nilS, .int .i64 0] ∧ Hid (∀ gr L, Blk W5 gr 96 L → Blk wx gr 96 L)) (fun iv _ => nr - (intOf iv).toNat)
    case atStart => exact ⟨0, va, xs, Nat.zero_le _, rfl, HX5, HF, Hh (fun h => h.elim id (fun c => absurd c (by omega))), H5, Z5, Hh (fun _ _ h => h)⟩
    clear HX5 HF H5 Z5 F5 e1
    obtain ⟨j, va, ys, hj, rfl, HX, HF, HN, HB6, BZ6, HRW⟩ := hrel
    by_cases hjl : j < nr
    case neg =>
     have hjl' : ¬ (j : Int) < nr := by omega
     have hj0 : 0 < j := by
      have h1 : 0 < f.recs.length := List.length_pos_iff.2 hfne.out
      rw [hnr.out] at h1
      omega
     have HN2 := Hh (fun (_ : ∃ t ∈ l.take (i + 1), t.vd = 1) => HN.out (.inr hj0))
     clear ROW HRW HN
     go_wp2_with fail
     go_meet
     case rel => exact ⟨true, va, An4, nn4, cn4, ttl5, ys, rfl, HX, HF, HN2, HB6, BZ6⟩
    have hjl' : (j : Int) < nr := by omega
    obtain ⟨gr, off2, hAr, ⟨L, hL⟩, hj', cs2, r1, r2, r3, r4⟩ := ROW.out j hjl
    have hLx := HRW.out gr L hL
    have r1x : wr.rangeAt gr (off2 + j * 33) cs2 := fun q v hv => (World.cell?_of_block (a := ⟨gr, off2 + j * 33 + q, none⟩) (hLx.trans hL.symm)).trans (r1 q v hv)
    have hadF := HFA.out _ (List.getElem_mem hj')
    have hfrom := HFR.out _ (List.getElem_mem hj')
    obtain ⟨a, ha⟩ : ∃ a, f.recs[j].ad = a := ⟨_, rfl⟩
    rw [ha] at r4 hadF hfrom
    have Zq := Blk.new wr 96 rrZ
    have kq : Below wr.heap.size wr (wr.alloc (.cells rrZ.toArray 96)) := (Below.refl _ _).alloc (Nat.le_refl _) _
    have hwr := HB6.size
    have hAF := Hh hadF
    have hFR := Hh hfrom
    subst hAr
    clear hL hLx r1 ha hj' hadF hfrom
    go_upto_block 3 with fail
    go_cut [] (fun wx => ∃ (va : Value) (ys : List Adr), Hid (AnX wx g3 gm (.slice An4 nn4 cn4) ttl5 va ys) ∧ Hid (∀ a ∈ ys, AnFrom l a) ∧ Hid (ys ≠ []) ∧ Below w.heap.size w wx ∧ Blk wx w.heap.size 183 [.int .i64 0, nilS, nilS, .int .i64 0] ∧ Hid (∀ gr L, Blk W5 gr 96 L → Blk wx gr 96 L))
    case first =>
     go_wp2_with (first
      | (refine at_op (.load 96 (.tmp 53)) rfl ?_; go_must (refine wpList_ldR rfl 96 (.tmp 53) rfl gr (off2 + j * 33) rfl cs2 r1x _ underlying96 rfl (by rw [r2]; exact rrI33) ?_))
      | (refine at_op (.store 96 (.tmp 11) (.tmp 54)) rfl ?_; go_must (refine wpList_stB rfl _ _ _ rfl wr.heap.size 0 rfl cs2 rfl Zq (by rw [r2, rrZ_len]; decide) (by rw [r2]; exact rrI33) r3 ?_)))
     intro w6 B6 g6 s6
     have C6 : Blk w6 wr.heap.size 96 cs2 := by
      have e : cs2 ++ rrZ.drop 33 = cs2 := by rw [List.drop_of_length_le (by rw [rrZ_len]; exact Nat.le_refl _), List.append_nil]
      have B6' : Blk w6 wr.heap.size 96 (cs2 ++ rrZ.drop 33) := by simpa [r2] using B6
      rwa [e] at B6'
     have k6 : Below wr.heap.size wr w6 := below_grown kq g6 kq.size (Nat.le_refl _)
     have X6 := HX.out.below k6
     have H6 := below_then HB6 hwr k6
     have Z6 := BZ6.below k6 BZ6.lt
     have HW6 : Hid (∀ gr L, Blk W5 gr 96 L → Blk w6 gr 96 L) := Hh (fun gr L h => (HRW.out gr L h).below k6 (HRW.out gr L h).lt)
     obtain ⟨gq, hgq⟩ : ∃ gq, wr.heap.size = gq := ⟨_, rfl⟩
     have hgqw : w.heap.size ≤ gq := by omega
     rw [hgq] at C6 ⊢
     clear hgq Zq kq B6 g6 s6 HX HB6 BZ6 HRW r1x k6 hwr
     have HLK := X6.map.look a hAF.out
     obtain ⟨Av, cv, hva⟩ := X6.own.form
     subst hva
     have d1 := X6.b3.cell_ 1 (u := .slice Av ys.length cv) rfl
     by_cases hm : a ∈ ys
     case pos =>
      rw [if_pos hm] at HLK
      have HY : Hid (ys ≠ []) := Hh (List.ne_nil_of_mem hm)
      have HX6 := Hh X6
      clear hm X6
      go_wp2_with (refine at_op (.load 24 (.tmp 56)) rfl ?_; go_must (refine wpList_ldB rfl _ _ rfl gq 4 rfl C6 18 (by omega) _ underlying24 rfl adI18 a.cells r4 ?_))
      go_meet
      case rel => exact ⟨_, ys, HX6, HF, HY, H6, Z6, HW6⟩
     case neg =>
      rw [if_neg hm] at HLK
      by_cases h64 : ys.length < 64
      case neg =>
       have h64' : ¬ (ys.length : Int) < 64 := by omega
       have HY : Hid (ys ≠ []) := Hh (fun c => by rw [c] at h64; simp at h64)
       have HX6 := Hh X6
       clear hm X6 h64
       go_wp2_with (refine at_op (.load 24 (.tmp 56)) rfl ?_; go_must (refine wpList_ldB rfl _ _ rfl gq 4 rfl C6 18 (by omega) _ underlying24 rfl adI18 a.cells r4 ?_))
       go_meet
       case rel => exact ⟨_, ys, HX6, HF, HY, H6, Z6, HW6⟩
      case pos =>
       have h64' : (ys.length : Int) < 64 := by omega
       have HX6 := Hh X6
       have HM6 := Hh hm
       clear hm X6
       go_wp2_with (first
        | (refine at_op (.load 24 (.tmp 56)) rfl ?_; go_must (refine wpList_ldB rfl _ _ rfl gq 4 rfl C6 18 (by omega) _ underlying24 rfl adI18 a.cells r4 ?_))
        | (refine at_op (.load 24 (.tmp 67)) rfl ?_; go_must (refine wpList_ldB rfl _ _ rfl gq 4 rfl C6 18 (by omega) _ underlying24 rfl adI18 a.cells r4 ?_))
        | (refine at_op (.mapUpdate 348 (.tmp 66) (.tmp 68) (.const (.int .i64 1))) rfl ?_; go_must (refine wpList_mapA _ rfl _ _ _ rfl gm ys.length ys a rfl rfl rfl HX6.out.map hAF.out (by simp only [maxLen]; omega) ?_)))
       intro w7 M7 g7
       have hgq3 : gq ≠ gm := fun c => HX6.out.map.ne_blk C6 c.symm
       have C7 := C6.grown g7 (by simpa using hgq3)
       have b37 := HX6.out.b3.grown g7 (by simpa using fun c : g3 = gm => hgmg c.symm)
       have O7 := LOwn.map HX6.out.own g7 (HX6.out.map.ne_own HX6.out.own)
       have H7 := below_grown H6 g7 H6.size (by omega)
       have Z7 := Z6.grown g7 (by simp; omega)
       have HW7 : Hid (∀ gr L, Blk W5 gr 96 L → Blk w7 gr 96 L) := Hh (fun gr L h => (HW6.out gr L h).grown g7 (by
        have := HX6.out.map.ne_blk (HW6.out gr L h)
        simpa using fun c : gr = gm => this c.symm))
       have hnl := HX6.out.nd
       have hln := HX6.out.ln
       have d17 := b37.cell_ 1 (u := .slice Av ys.length cv) rfl
       have HM7 := Hh M7
       have HO7 := Hh O7
       clear HLK d1 C6 H6 Z6 HW6 g7 M7 O7 HX6
       go_wp2_with (first
        | (refine at_op (.load 24 (.tmp 71)) rfl ?_; go_must (refine wpList_ldB rfl _ _ rfl gq 4 rfl C7 18 (by omega) _ underlying24 rfl adI18 a.cells r4 ?_))
        | (refine at_op (.buildSlice 33 1 #[(0, .tmp 72)]) rfl ?_; go_must (refine wpList_bsN rfl 33 24 _ 18 32 underlying33 adInfo3 (by decide) (by decide) (.tmp 72) rfl a.cells rfl (a.cells_len hAF.out.2.2) ?_)))
       intro w8 B8 k8
       have b38 := b37.below k8 b37.lt
       have O8 : AdsO w8 g3 (.slice Av ys.length cv) ys := LOwn.below HO7.out k8 (fun _ _ x => x)
       have M8 := HM7.out.kept (grown_of_below k8 none) (by simp)
       have H8 := below_then H7 H7.size k8
       have Z8 := Z7.below k8 Z7.lt
       have HW8 : Hid (∀ gr L, Blk W5 gr 96 L → Blk w8 gr 96 L) := Hh (fun gr L h => (HW7.out gr L h).below k8 (HW7.out gr L h).lt)
       have hne := LOwn.ne HO7.out (Nat.le_refl _)
       have HO8 := Hh O8
       have HM8 := Hh M8
       have hg38 : g3 ≤ w8.heap.size := Nat.le_of_lt b38.lt
       clear C7 b37 H7 Z7 HW7 k8 d17 O8 M8 HO7 HM7
       go_wp2_with (at_builtin; go_must (refine wpList_app1 _ rfl (.tmp 70) (.tmp 73) 33 rfl 24 _ 18 32 underlying33 adInfo3 (by kernel_rfl) (by decide) (R := AdI) g3 _ ys rfl HO8.out hg38 _ a.cells a rfl B8 hne (a.cells_len hAF.out.2.2) a.cells_one ⟨rfl, hAF.out.2.2⟩ (by simp only [maxLen]; omega) (by omega) ?_))
       intro v9 w9 O9 g9
       have b39 := LOwn.keep HO8.out b38 (by decide) g9
       have M9 := HM8.out.kept g9 (HM8.out.ne_own HO8.out)
       have H9 := H8.grown g9 H8.size (fun k hk => by have := HO8.out.base k hk; omega)
       have Z9 := LOwn.keep HO8.out Z8 (by decide) g9
       have HW9 : Hid (∀ gr L, Blk W5 gr 96 L → Blk w9 gr 96 L) := Hh (fun gr L h => LOwn.keep HO8.out (HW8.out gr L h) (by decide) g9)
       obtain ⟨zs, hzs⟩ : ∃ zs, Hid (ys ++ [a] = zs) := ⟨_, Hh rfl⟩
       rw [hzs.out] at O9 M9
       have hzl : Hid (zs.length = ys.length + 1) := Hh (by rw [← hzs.out]; simp)
       have hzl2 : zs.length ≤ 64 := by rw [hzl.out]; omega
       obtain ⟨A9, c9, hv9⟩ := O9.form
       subst hv9
       have HO9 := Hh O9
       have HM9 := Hh M9
       clear O9 M9 g9 B8 hne b38 H8 Z8 HW8 HO8 HM8
       go_wp2_with (refine at_op (.store 33 (.tmp 75) (.tmp 74)) rfl ?_; go_must (refine wpList_stC rfl 33 (.tmp 75) (.tmp 74) rfl g3 1 rfl (.slice A9 zs.length c9) rfl b39 (by show 1 < 4; decide) adsI1 rfl rfl ?_))
       intro w10 B10 g10 sw
       clear sw
       have X10 : AnX w10 g3 gm (.slice An4 nn4 cn4) ttl5 (.slice A9 zs.length c9) zs := ⟨B10, HO9.out.blk g10 b39 (by decide), by rw [hzl.out]; exact HM9.out.kept g10 (by intro c; injection c with c; exact hgmg c), by
        rw [← hzs.out]
        rw [List.nodup_append]
        refine ⟨hnl, by simp, fun x hx y hy => ?_⟩
        simp only [List.mem_singleton] at hy
        subst hy
        intro c
        subst c
        exact HM6.out hx, hzl2⟩
       have H10 := below_grown H9 g10 H9.size (by omega)
       have Z10 := Z9.grown g10 (by simp; omega)
       have HW10 : Hid (∀ gr L, Blk W5 gr 96 L → Blk w10 gr 96 L) := Hh (fun gr L h => (HW9.out gr L h).grown g10 (by
        have := blk_ne (HW9.out gr L h) b39 (by decide)
        simpa using this))
       have HF2 : Hid (∀ x ∈ zs, AnFrom l x) := Hh (fun x hx => by
        rw [← hzs.out] at hx
        rcases List.mem_append.1 hx with h | h
        ·
         exact HF.out x h
        ·
         simp only [List.mem_singleton] at h
         subst h
         exact hFR.out)
       have HZ : Hid (zs ≠ []) := Hh (by rw [← hzs.out]; simp)
       have HX10 := Hh X10
       clear B10 g10 b39 HO9 HM9 H9 Z9 HW9 X10
       go_wp2_with fail
       go_meet
       case rel => exact ⟨_, zs, HX10, HF2, HZ, H10, Z10, HW10⟩
    obtain ⟨va2, ys2, X2, HF2, HN2, HB2, BZ2, HRW2⟩ := hcut
    obtain ⟨W6, rfl⟩ : ∃ W6, W6 = wc := ⟨_, rfl⟩
    have HN3 := Hh (fun (_ : xs ≠ [] ∨ 0 < j + 1) => HN2.out)
    clear HX HF HN HB6 BZ6 HRW r1x Zq kq
    go_wp2_with fail
    go_roundw
    case rel => exact ⟨j + 1, va2, ys2, by omega, by go_num, X2, HF2, HN3, HB2, BZ2, HRW2⟩
    case measure => simp [intOf]; omega
  obtain ⟨sb2, va2, An2, nn2, cn2, ttl2, xs2, rfl, HX2, HF2, HE2, HB2, BZ2⟩ := hcut
  obtain ⟨W9, rfl⟩ : ∃ W9, W9 = wc := ⟨_, rfl⟩
  clear HX HF HE HB BZ re Zt kz HTK HFO HM HT
  go_wp2_with fail
  go_roundw
  case rel => exact ⟨i + 1, sb2, va2, An2, nn2, cn2, ttl2, xs2, by omega, rfl, by go_num, HX2, HF2, HE2, HB2, BZ2⟩
  case measure => simp [intOf]; omega
 have hlt' : ¬ (i : Int) < n := by omega
 have hte : l.take i = l := by rw [List.take_of_length_le (by rw [hn.out]; omega)]
 rw [hte] at HE
 obtain ⟨Av, cv, hva⟩ := HX.out.own.form
 subst hva
 have B3 := HX.out.b3
 have hne3 : w.heap.size ≠ g3 := by omega
 clear HH HOK HHn hte
 go_wp2_with (first
  | (refine at_op (.load 183 (.tmp 3)) rfl ?_; go_must (refine wpList_ldB rfl _ _ rfl g3 0 rfl B3 4 (Nat.le_refl 4) _ underlying183 rfl pres4 [.int .i64 1, .slice Av xs.length cv, .slice An nn cn, .int .i64 ttl] rfl ?_))
  | (refine at_op (.store 183 (.tmp 2) (.tmp 78)) rfl ?_; go_must (refine wpList_stB rfl _ _ _ rfl w.heap.size 0 rfl [.int .i64 1, .slice Av xs.length cv, .slice An nn cn, .int .i64 ttl] rfl BZ (Nat.le_refl 4) pres4 (by simp [Value.oneCell']) ?_)))
 intro w11 B11 g11 sw
 have B11' : Blk w11 w.heap.size 183 [.int .i64 1, .slice Av xs.length cv, .slice An nn cn, .int .i64 ttl] := by simpa using B11
 have O11 := HX.out.own.blk g11 BZ (by decide)
 have H11 := below_grown HB g11 HB.size (Nat.le_refl _)
 have E : AnsRet l w (.returned (.agg [.int .i64 1, .slice Av xs.length cv, .slice An nn cn, .int .i64 ttl].toArray)) w11 := ⟨_, _, _, xs, rfl, rfl, LOwn.zero O11, HE.out, HX.out.nd, HX.out.ln, HF.out, H11⟩
 have HE11 := Hh E
 clear B11 g11 O11 H11 E HX HF HE HB BZ B3
 go_wp2_with fail
 refine ret_cell rfl w.heap.size rfl B11' _ underlying183 rfl pres4 rfl ?_
 exact HE11.out
open Go.RowKit
def ResP (p : Pr) (vd : Int) (xs : List Adr) : Prop := 1 ≤ vd ∧ vd ≤ 5 ∧ (xs ≠ [] ↔ vd = 1) ∧ xs.Nodup ∧ xs.length ≤ 64 ∧ ∀ a ∈ xs, a.ip.length = 16 ∧ ∃ ty ∈ p.tys, (ty = 1 ∧ a.fam = 4) ∨ (ty = 28 ∧ a.fam = 6)
def PresRet (p : Pr) (w : World) (e : Ending) (w' : World) : Prop := ∃ vd va vn ttl xs, e = .returned (.agg [.int .i64 vd, va, vn, .int .i64 ttl].toArray) ∧ vn.oneCell' = true ∧ AdsO w' 0 va xs ∧ ResP p vd xs ∧ Below w.heap.size w w'
theorem told_ok {p : Pr} {L : Lt} {tk k H : Nat} (h : PI p L tk k H) (hty : ∀ t ∈ p.tys, t = 1 ∨ t = 28) (hnm : p.nm.length ≤ 100000) (hd : doneP p = true) : ∀ t ∈ toldL p.bg, TdOk t ∧ (1 ≤ t.vd ∧ t.vd ≤ 5) ∧ (t.vd = 1 → ∀ f, followQ t.q t.m.an 16 0 t.q.name none = .ok f → f.recs ≠ [] ∧ ∀ r ∈ f.recs, r.ad.ip.length = 16 ∧ ∃ ty ∈ p.tys, (ty = 1 ∧ r.ad.fam = 4) ∨ (ty = 28 ∧ r.ad.fam = 6)) := by
 intro t ht
 unfold toldL at ht
 obtain ⟨x, hx, rfl⟩ := List.mem_map.1 ht
 obtain ⟨hx1, hx2⟩ := List.mem_filter.1 hx
 obtain ⟨i, hi⟩ := List.getElem?_of_mem hx1
 obtain ⟨e1, e2, e3, e4, e5⟩ := h.ea i x hi
 have hib : i < p.bg.length := (List.getElem?_eq_some_iff.1 hi).1
 have hit : i < p.tys.length := Nat.lt_of_lt_of_le hib h.bl
 have hq : x.q = ⟨p.nm, p.tys[i], 1⟩ := by
  rw [e3]; unfold qnP
  rw [List.getD_eq_getElem?_getD, List.getElem?_eq_getElem hit]; rfl
 have hm : p.tys[i] ∈ p.tys := List.getElem_mem hit
 have key : ∀ f, followQ x.q x.msg.an 16 0 x.q.name none = .ok f → f.recs ≠ [] ∧ ∀ r ∈ f.recs, adF r.ad ∧ ((p.tys[i] = 1 ∧ r.ad.fam = 4) ∨ (p.tys[i] = 28 ∧ r.ad.fam = 6)) := by
  intro f hf
  obtain ⟨f1, f2⟩ := followQ_recs _ _ _ _ _ _ _ hf
  refine ⟨f1, fun r hr => ?_⟩
  rw [f2] at hr
  obtain ⟨r1, r2⟩ := List.mem_filter.1 hr
  unfold isR at r2
  simp only [Bool.and_eq_true, decide_eq_true_eq] at r2
  obtain ⟨r3, r4, _⟩ := r2
  rw [hq] at r3 r4
  simp only at r3 r4
  obtain ⟨w1, w2, w3⟩ := e4.1 r r1
  rcases hty _ hm with e | e
  ·
   obtain ⟨q1, q2⟩ := w2 (r3.trans e) r4
   exact ⟨⟨.inl q1, ⟨by omega, by omega⟩, w1.1⟩, .inl ⟨e, q1⟩⟩
  ·
   obtain ⟨q1, q2⟩ := w3 (r3.trans e) r4
   exact ⟨⟨.inr q1, ⟨by omega, by omega⟩, w1.1⟩, .inr ⟨e, q1⟩⟩
 have hdx : x.done = true := by simpa using hx2
 have hv := e2 hdx
 refine ⟨⟨by show x.q.name.length ≤ 100000; rw [hq]; exact hnm, fun hv1 => ?_⟩, ?_, fun hv1 f hf => ?_⟩
 ·
  have hv1 : x.vd = 1 := hv1
  rcases hv with hv | ⟨_, f, hf⟩
  ·
   omega
  ·
   exact ⟨f, hf, fun r hr => ((key f hf).2 r hr).1⟩
 ·
  show 1 ≤ x.vd ∧ x.vd ≤ 5
  rcases hv with hv | ⟨hv, _⟩ <;> omega
 ·
  obtain ⟨k1, k2⟩ := key f hf
  refine ⟨k1, fun r hr => ?_⟩
  obtain ⟨⟨_, _, q3⟩, q4⟩ := k2 r hr
  exact ⟨q3, _, hm, q4⟩
theorem told_ne {p : Pr} (hd : doneP p = true) (hn : 0 < p.tys.length) : ∃ t, t ∈ toldL p.bg := by
 unfold doneP at hd
 simp only [Bool.and_eq_true, List.all_eq_true, decide_eq_true_eq] at hd
 obtain ⟨h1, h2⟩ := hd
 have hl : 0 < p.bg.length := by omega
 refine ⟨toldX' p.bg[0], ?_⟩
 unfold toldL
 exact List.mem_map.2 ⟨_, List.mem_filter.2 ⟨List.getElem_mem hl, h1 _ (List.getElem_mem hl)⟩, rfl⟩
def vdAt (k : Nat) : Int := [1, 5, 4, 2, 3].getD k 0
theorem vdAt_run (k : Nat) (hk : k < 5) (W : World) : (Instr.index 94 (.agg #[.int .i64 1, .int .i64 5, .int .i64 4, .int .i64 2, .int .i64 3]) (.int .i64 k)).run prog W = .ok (.int .i64 (vdAt k)) W := by
 obtain rfl | rfl | rfl | rfl | rfl : k = 0 ∨ k = 1 ∨ k = 2 ∨ k = 3 ∨ k = 4 := by omega
 all_goals kernel_rfl
theorem vdAt_all {v : Int} (h1 : 1 ≤ v) (h5 : v ≤ 5) : ∃ k, k < 5 ∧ vdAt k = v := by
 obtain rfl | rfl | rfl | rfl | rfl : v = 1 ∨ v = 5 ∨ v = 4 ∨ v = 2 ∨ v = 3 := by omega
 ·
  exact ⟨0, by omega, rfl⟩
 ·
  exact ⟨1, by omega, rfl⟩
 ·
  exact ⟨2, by omega, rfl⟩
 ·
  exact ⟨3, by omega, rfl⟩
 ·
  exact ⟨4, by omega, rfl⟩
theorem vdAt_le (k : Nat) (hk : k < 5) : 1 ≤ vdAt k ∧ vdAt k ≤ 5 := by
 obtain rfl | rfl | rfl | rfl | rfl : k = 0 ∨ k = 1 ∨ k = 2 ∨ k = 3 ∨ k = 4 := by omega
 all_goals exact ⟨by decide, by decide⟩
theorem bld_pres (n : Int) (W : World) : (Instr.build 183 #[(0, .int .i64 n)]).run prog W = .ok (.agg [Value.int .i64 n, nilS, nilS, .int .i64 0].toArray) W := by kernel_rfl
set_option maxHeartbeats 4000000 in
theorem presult_any {w0 w : World} {b g gl : Nat} {X : List (Nat × Option Nat)} {p : Pr} {L : Lt} {tk k0 H : Nat} (h : PrAt w0 w b g gl X p) (hI : PI p L tk k0 H) (hty : ∀ t ∈ p.tys, t = 1 ∨ t = 28) (hnm : p.nm.length ≤ 100000) (hd : doneP p = true) (hn : 0 < p.tys.length) (hbw : b ≤ w.heap.size) :
  Calls prog 240 #[.pointer (some ⟨g, 0, none⟩)] w (PresRet p w) := by
 have TOK := Hh (told_ok hI hty hnm hd)
 obtain ⟨t0, ht0⟩ := told_ne hd hn
 have hbl2 : p.bg.length ≤ 2 := Nat.le_trans hI.bl hI.tl
 have Z0 := Blk.new w 183 [.int .i64 0, nilS, nilS, .int .i64 0]
 have HZ : Below w.heap.size w (w.alloc (.cells #[.int .i64 0, .slice none 0 0, .slice none 0 0, .int .i64 0] 183)) := (Below.refl _ _).alloc (Nat.le_refl _) _
 have DN := Hh (fun V (hV : Below w.heap.size w V) => pdone_any (h.below hbw hV) hbl2)
 have TL := Hh (fun V (hV : Below w.heap.size w V) => ptold_any (h.below hbw hV) (fun i x hx => (hI.ea i x hx).q) hI.bl hbl2)
 rw [hd] at DN
 have hTl : (toldL p.bg).length ≤ 2 := by
  have := toldL_len p.bg p.bg.length
  rw [List.take_length] at this
  omega
 unfold ToldRet at TL
 obtain ⟨T, hT⟩ : ∃ T, Hid (toldL p.bg = T) := ⟨_, Hh rfl⟩
 rw [hT.out] at TOK TL hTl ht0
 have HT0 := Hh ht0
 clear h hI hty hnm hd hn ht0
 go_enter func240, ntmps240
 go_wp2_with fail
 have DN1 := Hh (DN.out _ HZ)
 refine DN1.out.mono ?_
 rintro _ w1 ⟨rfl, b1⟩
 have H1 := below_then HZ HZ.size b1
 have Z1 := Z0.below b1 Z0.lt
 have TL1 := Hh (TL.out _ H1)
 clear DN DN1 TL HZ Z0 b1
 go_wp2_with fail
 refine TL1.out.mono ?_
 rintro _ w2 ⟨vt, rfl, hOt, b2⟩
 obtain ⟨At, ct, hvt⟩ := LOwn.form hOt
 subst hvt
 have H2 := below_then H1 H1.size b2
 have Z2 := Z1.below b2 Z1.lt
 have HOT := Hh hOt
 have hH1 := H1.size
 have hb2s := b2.size
 clear TL1 H1 Z1 b2 hOt
 obtain ⟨nT, hnT⟩ : ∃ nT, Hid (T.length = nT) := ⟨_, Hh rfl⟩
 rw [hnT.out]
 have IX := Hh (fun k hk V => vdAt_run k hk V)
 obtain ⟨arr, harr⟩ : ∃ arr, Hid (Value.agg #[.int .i64 1, .int .i64 5, .int .i64 4, .int .i64 2, .int .i64 3] = arr) := ⟨_, Hh rfl⟩
 rw [harr.out] at IX
 go_wp2_with fail
 rw [harr.out]
 go_loopw [18] (fun iv wr => ∃ k : Nat, k ≤ 5 ∧ iv = .int .i64 k ∧ Hid (∀ j, j < k → ¬ ∃ t ∈ T, t.vd = vdAt j) ∧ Below w.heap.size w wr ∧ Below w2.heap.size w2 wr ∧ Blk wr w.heap.size 183 [.int .i64 0, nilS, nilS, .int .i64 0]) (fun iv _ => 5 - (intOf iv).toNat)
 case atStart => exact ⟨0, by omega, rfl, Hh (fun j c => absurd c (by omega)), H2, Below.refl _ _, Z2⟩
 clear H2 Z2
 obtain ⟨k, hk, rfl, HS, HB, HB2, BZ⟩ := hrel
 by_cases hlt : k < 5
 case neg =>
  exfalso
  obtain ⟨v1, v2⟩ := (TOK.out t0 HT0.out).2.1
  obtain ⟨j, j1, j2⟩ := vdAt_all v1 v2
  exact HS.out j (by omega) ⟨t0, HT0.out, j2.symm⟩
 have hlt' : (k : Int) < 5 := by omega
 have IX1 := Hh (IX.out k hlt)
 obtain ⟨l1, l5⟩ := vdAt_le k hlt
 have HV1 : Hid (vdAt k = 1 ↔ k = 0) := Hh (by
  obtain rfl | rfl | rfl | rfl | rfl : k = 0 ∨ k = 1 ∨ k = 2 ∨ k = 3 ∨ k = 4 := by omega
  all_goals decide)
 have HSN : Hid ((¬ ∃ t ∈ T, t.vd = vdAt k) → ∀ j, j < k + 1 → ¬ ∃ t ∈ T, t.vd = vdAt j) := Hh (fun h j hj => by
  by_cases e : j = k
  ·
   subst e; exact h
  ·
   exact HS.out j (by omega))
 obtain ⟨v, hv⟩ : ∃ v, Hid (vdAt k = v) := ⟨_, Hh rfl⟩
 rw [hv.out] at IX1 l1 l5 HV1 HSN
 have hX : ∀ V, (Instr.index 94 arr (.int .i64 k)).run prog V = .ok (.int .i64 v) V := IX1.out
 have kz : Below wr.heap.size wr (wr.alloc (.cells #[.int .i64 v] 3)) := (Below.refl _ _).alloc (Nat.le_refl _) _
 have Bv : Blk (wr.alloc (.cells #[.int .i64 v] 3)) wr.heap.size 3 [.int .i64 v] := Blk.new wr 3 [.int .i64 v]
 have OTz := TdsO.below (TdsO.below HOT.out HB2) kz
 have Zz := BZ.below kz BZ.lt
 have Hz := below_then HB HB.size kz
 have H2z := below_then HB2 HB2.size kz
 have CT := Hh (contains_any _ _ At ct T v wr.heap.size OTz (by omega) (Bv.cell_ 0 rfl) Bv.lt)
 rw [hnT.out] at CT
 obtain ⟨gv, hgv⟩ : ∃ gv, Hid (wr.heap.size = gv) := ⟨_, Hh rfl⟩
 obtain ⟨W1, hW1⟩ : ∃ W1, Hid (wr.alloc (.cells #[.int .i64 v] 3) = W1) := ⟨_, Hh rfl⟩
 rw [hW1.out, hgv.out] at CT Bv
 rw [hW1.out] at OTz Zz Hz H2z
 have HOTz := Hh OTz
 clear kz OTz BZ HB HB2 HS IX IX1
 go_wp2_with fail
 rw [hW1.out, hgv.out]
 refine CT.out.mono ?_
 rintro _ w3 ⟨bb, rfl, hbb, b3⟩
 have H3 := below_then Hz Hz.size b3
 have H23 := below_then H2z H2z.size b3
 have Z3 := Zz.below b3 Zz.lt
 have dv := (Bv.below b3 Bv.lt).cell_ 0 (u := .int .i64 v) rfl
 have OT3 := TdsO.below HOTz.out b3
 have HBB := Hh hbb
 have HOT3 := Hh OT3
 clear CT Bv Zz Hz H2z HOTz b3 hX OT3 hbb hW1 hgv
 cases bb with
 | false =>
  have HS2 := Hh (HSN.out (fun c => by have := HBB.out.2 c; cases this))
  clear HSN HV1 dv l1 l5 HBB
  go_wp2_with fail
  go_roundw
  case rel => exact ⟨k + 1, by omega, by go_num, HS2, H3, H23, Z3⟩
  case measure => simp [intOf]; omega
 | true =>
  have HT1 := Hh (HBB.out.1 rfl)
  clear HSN HBB
  by_cases hv1 : v = 1
  case pos =>
   subst hv1
   have ANS := Hh (panswer_any w3 _ At ct T HOT3.out hTl (fun t ht => (TOK.out t ht).1))
   rw [hnT.out] at ANS
   unfold AnsRet at ANS
   clear HOT3 HV1
   go_wp2_with fail
   refine ANS.out.mono ?_
   rintro _ w4 ⟨va, vn, ttl, xs, rfl, hvn, hOx, hne, hnd, hln, hfr, b4⟩
   have Z4 := Z3.below b4 Z3.lt
   have H4 := below_then H3 H3.size b4
   obtain ⟨Ax, cx, hva⟩ := hOx.form
   subst hva
   have hone : ∀ u ∈ [Value.int .i64 1, .slice Ax xs.length cx, vn, .int .i64 ttl], u.oneCell' = true := by
    intro u hu
    simp only [List.mem_cons, List.not_mem_nil, or_false] at hu
    rcases hu with rfl | rfl | rfl | rfl
    ·
     rfl
    ·
     rfl
    ·
     exact hvn
    ·
     rfl
   have HO4 := Hh hOx
   have RP : Hid (ResP p 1 xs) := Hh ⟨by decide, by decide, ⟨fun _ => rfl, fun _ => hne HT1.out⟩, hnd, hln, fun a ha => by
    obtain ⟨t, t1, t2, f, t3, r, t4, t5⟩ := hfr a ha
    obtain ⟨q1, q2⟩ := (TOK.out t t1).2.2 t2 f t3
    obtain ⟨q3, q4⟩ := q2 r t4
    rw [t5] at q3 q4
    exact ⟨q3, q4⟩⟩
   clear ANS hOx hne hnd hfr b4 H3 Z3 H23 dv
   go_wp2_with (refine at_op (.store 183 (.tmp 2) (.tmp 29)) rfl ?_; go_must (refine wpList_stB rfl _ _ _ rfl w.heap.size 0 rfl [.int .i64 1, .slice Ax xs.length cx, vn, .int .i64 ttl] rfl Z4 (Nat.le_refl 4) pres4 hone ?_))
   intro w11 B11 g11 sw
   have B11' : Blk w11 w.heap.size 183 [.int .i64 1, .slice Ax xs.length cx, vn, .int .i64 ttl] := by simpa using B11
   have E : PresRet p w (.returned (.agg [.int .i64 1, .slice Ax xs.length cx, vn, .int .i64 ttl].toArray)) w11 := ⟨_, _, _, _, xs, rfl, hvn, HO4.out.blk g11 Z4 (by decide), RP.out, below_grown H4 g11 H4.size (Nat.le_refl _)⟩
   have HE11 := Hh E
   clear B11 g11 E H4 Z4 HO4 RP
   go_wp2_with fail
   refine ret_cell rfl w.heap.size rfl B11' _ underlying183 rfl pres4 rfl ?_
   exact HE11.out
  case neg =>
   have hv1' : (v == 1) = false := by simpa using hv1
   have RB := Hh (fun V => bld_pres v V)
   have HNE := Hh hv1
   clear HV1 hv1
   go_wp2_with (first
    | (refine at_op (.build 183 #[(0, .tmp 30)]) rfl ?_; go_must (refine wpList_bld rfl 183 _ rfl #[(0, .int .i64 v)] (by simp [Act.eval, Act.put]) (RB.out _) ?_))
    | (refine at_op (.store 183 (.tmp 2) (.tmp 31)) rfl ?_; go_must (refine wpList_stB rfl _ _ _ rfl w.heap.size 0 rfl [.int .i64 v, nilS, nilS, .int .i64 0] rfl Z3 (Nat.le_refl 4) pres4 (by simp [Value.oneCell', nilS]) ?_)))
   intro w11 B11 g11 sw
   have B11' : Blk w11 w.heap.size 183 [.int .i64 v, nilS, nilS, .int .i64 0] := by simpa using B11
   have RP : ResP p v [] := ⟨l1, l5, ⟨fun c => absurd rfl c, fun c => absurd c HNE.out⟩, List.nodup_nil, Nat.zero_le _, fun a ha => by cases ha⟩
   have E : PresRet p w (.returned (.agg [.int .i64 v, nilS, nilS, .int .i64 0].toArray)) w11 := ⟨_, _, _, _, [], rfl, rfl, LOwn.nil _ _ _ _ _, RP, below_grown H3 g11 H3.size (Nat.le_refl _)⟩
   have HE11 := Hh E
   clear B11 g11 E H3 Z3 RP RB dv
   go_wp2_with fail
   refine ret_cell rfl w.heap.size rfl B11' _ underlying183 rfl pres4 rfl ?_
   exact HE11.out
end Go.Proofs.YteimenplbanooaaGreatDoor
