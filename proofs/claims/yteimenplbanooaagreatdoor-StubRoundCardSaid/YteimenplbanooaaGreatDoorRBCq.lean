/-
  Layer 26 (chain), plain: the records that are a name's, its first link, and what the chain leads to.
-/
import Derived.Test.YteimenplbanooaaGreatDoorRARq
namespace Go.Proofs.YteimenplbanooaaGreatDoor
open _root_.Go.Proofs.Tryz
open Go.RowKit
set_option linter.unusedVariables false
def isR (n : List (List UInt8)) (k c : Int) (r : RR) : Bool := decide (r.ty = k) && (decide (r.cl = c) && decide (lowN r.name = lowN n))
def ofR (l : List RR) (n : List (List UInt8)) (k c : Int) : List RR := l.filter (isR n k c)
def linkI (ty cl : Int) (n : List (List UInt8)) : List RR → Nat → Int → Int
 | [], _, i => i
 | r :: l, k, i => linkI ty cl n l (k + 1) (if i < 0 ∧ r.ty ≠ ty ∧ isR n 5 cl r = true then k else i)
theorem linkI_app (ty cl : Int) (n : List (List UInt8)) (b : List RR) : ∀ (a : List RR) (k : Nat) (i : Int), linkI ty cl n (a ++ b) k i = linkI ty cl n b (k + a.length) (linkI ty cl n a k i)
 | [], k, i => rfl
 | r :: a, k, i => by
  show linkI ty cl n (a ++ b) (k + 1) _ = _
  rw [linkI_app ty cl n b a (k + 1)]
  rw [List.length_cons, show k + 1 + a.length = k + (a.length + 1) by omega]
  rfl
structure Fnd where
 name : List (List UInt8)
 recs : List RR
 ttl : Option Int
 links : Nat
def leastT (t : Option Int) (n : Int) : Option Int := match t with
 | none => some n
 | some m => if n < m then some n else some m
def followQ (q : Qn) (l : List RR) : Nat → Nat → List (List UInt8) → Option Int → Except Int Fnd
 | f, k, n, t => match ofR l n q.ty q.cl with
  | r :: rs => .ok ⟨n, r :: rs, (r :: rs).foldl (fun t r => leastT t r.ttl) t, k⟩
  | [] => match ofR l n 5 q.cl with
   | [] => .error 11
   | r :: _ => match f with
    | 0 => .error 15
    | f + 1 => followQ q l f (k + 1) r.tg (leastT t r.ttl)
theorem linkI_of (ty cl : Int) (n : List (List UInt8)) : ∀ (l : List RR) (k : Nat), ofR l n ty cl = [] → match ofR l n 5 cl with
  | [] => linkI ty cl n l k (-1) = -1
  | r :: _ => ∃ j : Nat, linkI ty cl n l k (-1) = ((k + j : Nat) : Int) ∧ l[j]? = some r
 | [], k, _ => rfl
 | r :: l, k, h => by
  unfold ofR at h
  rw [List.filter_cons] at h
  split at h
  ·
   cases h
  rename_i hn
  have hn : isR n ty cl r = false := by simpa using hn
  unfold ofR
  rw [List.filter_cons]
  have ih := linkI_of ty cl n l (k + 1) h
  unfold ofR at ih
  by_cases h5 : isR n 5 cl r = true
  ·
   rw [if_pos h5]
   have hty : r.ty ≠ ty := by
    intro e
    unfold isR at hn h5
    rw [e] at hn
    simp at hn h5
    exact hn h5.2.1 h5.2.2
   refine ⟨0, ?_, rfl⟩
   show linkI ty cl n l (k + 1) (if (-1 : Int) < 0 ∧ r.ty ≠ ty ∧ isR n 5 cl r = true then (k : Int) else -1) = _
   rw [if_pos ⟨by decide, hty, h5⟩]
   exact linkI_set ty cl n l (k + 1) k (by omega)
  ·
   rw [if_neg h5]
   have e : linkI ty cl n (r :: l) k (-1) = linkI ty cl n l (k + 1) (-1) := by
    show linkI ty cl n l (k + 1) (if (-1 : Int) < 0 ∧ r.ty ≠ ty ∧ isR n 5 cl r = true then (k : Int) else -1) = _
    rw [if_neg (fun h => h5 h.2.2)]
   rw [e]
   cases hf : List.filter (isR n 5 cl) l with
   | nil => rw [hf] at ih; exact ih
   | cons x xs =>
    rw [hf] at ih
    obtain ⟨j, h1, h2⟩ := ih
    exact ⟨j + 1, by rw [h1]; congr 1; omega, by simpa using h2⟩
where
 linkI_set (ty cl : Int) (n : List (List UInt8)) : ∀ (l : List RR) (k : Nat) (i : Int), 0 ≤ i → linkI ty cl n l k i = i
  | [], k, i, _ => rfl
  | r :: l, k, i, h => by
   show linkI ty cl n l (k + 1) (if i < 0 ∧ r.ty ≠ ty ∧ isR n 5 cl r = true then (k : Int) else i) = i
   rw [if_neg (fun h' => by omega)]
   exact linkI_set ty cl n l (k + 1) i h
set_option maxRecDepth 100000
set_option linter.unusedSimpArgs false
def LookRet (rs : List RR) (i : Int) (w : World) (e : Ending) (w' : World) : Prop := ∃ A c, e = .returned (.tuple #[.slice A rs.length c, .int .i64 i]) ∧ RRsOwn w' w.heap.size (.slice A rs.length c) rs ∧ Below w.heap.size w w'
theorem isR_eq (n : List (List UInt8)) (k c : Int) (r : RR) : isR n k c r = (decide (r.ty = k) && (decide (r.cl = c) && decide (lowN r.name = lowN n))) := rfl
theorem rrI33 : (prog.info? 96).map (·.size) = some 33 := by kernel_rfl
theorem rrInfo3' : (prog.info? 96).map (fun i => (i.zero, i.size, i.bytes)) = some (some (.agg rrZ.toArray), 33, 208) := by kernel_rfl
set_option maxHeartbeats 2000000 in
theorem look_any (vq : Value) (ty cl : Int) (A Al : Option Addr) (c cA : Nat) (n : List (List UInt8)) (l : List RR) (w : World) (hN : NmR w A c n) (hL : RRsOwn w 0 (.slice Al l.length cA) l) (hl : l.length ≤ 65535) :
  Calls prog 265 #[.agg #[vq, .int .i64 ty, .int .i64 cl], .slice A n.length c, .slice Al l.length cA] w (LookRet (ofR l n ty cl) (linkI ty cl n l 0 (-1)) w) := by
 have HX : Below w.heap.size w (w.alloc (.cells #[vq, .int .i64 ty, .int .i64 cl] 218)) := (Below.refl _ _).alloc (Nat.le_refl _) _
 have BX := Blk.new w 218 [vq, .int .i64 ty, .int .i64 cl]
 go_enter func265, ntmps265
 go_wp2_with fail
 go_loopw [8, 9, 14] (fun rv lv iv wr => ∃ k : Nat, k ≤ l.length ∧ iv = .int .i64 k ∧ lv = .int .i64 (linkI ty cl n (l.take k) 0 (-1)) ∧ RRsOwn wr w.heap.size rv (ofR (l.take k) n ty cl) ∧ Below w.heap.size w wr ∧ Blk wr w.heap.size 218 [vq, .int .i64 ty, .int .i64 cl]) (fun _ _ iv _ => l.length - (intOf iv).toNat)
 case atStart => exact ⟨0, Nat.zero_le _, rfl, rfl, RRsOwn.nil _ _, HX, BX⟩
 clear HX BX
 obtain ⟨k, hk, rfl, rfl, ho, hB, BX⟩ := hrel
 obtain ⟨Ak, ck, hv⟩ := ho.form
 subst hv
 by_cases hlt : k < l.length
 case neg =>
  have hlt' : ¬ (k : Int) < l.length := by omega
  rw [List.take_of_length_le (by omega)] at ho ⊢
  go_wp2_with fail
  go_ret2
  exact ⟨Ak, ck, rfl, ho, hB⟩
 have hlt' : (k : Int) < l.length := by omega
 obtain ⟨gs, hA, hgs, hr⟩ := hL.at_ (fun _ _ h => h.len) (by omega)
 obtain ⟨cx, hcx, hce⟩ := hr k hlt
 have hcx := range_below hcx hB hgs
 subst hA
 have hcl := hce.len
 have hone := hce.one
 rw [Nat.zero_add] at hcx
 have l64 : (0 : Int) ≤ k := by omega
 have SF : Hid (ofR (l.take (k + 1)) n ty cl = ofR (l.take k) n ty cl ++ (if isR n ty cl l[k] = true then [l[k]] else [])) := Hh (by unfold ofR; exact filter_succ hlt)
 have SL : Hid (linkI ty cl n (l.take (k + 1)) 0 (-1) = if linkI ty cl n (l.take k) 0 (-1) < 0 ∧ l[k].ty ≠ ty ∧ isR n 5 cl l[k] = true then (k : Int) else linkI ty cl n (l.take k) 0 (-1)) := Hh (by
  rw [List.take_succ_eq_append_getElem hlt, linkI_app, List.length_take, Nat.min_eq_left hk, Nat.zero_add]; rfl)
 obtain ⟨vn, vt, vm, hcs, hwf, hnm, htg, hml, _⟩ := hce
 obtain ⟨An, cn, hv, hNn⟩ := hnm.form
 subst hv
 have e0 : cx[0]? = some (.slice An l[k].name.length cn) := by rw [hcs]; rfl
 have e1 : cx[1]? = some (.int .i64 l[k].ty) := by rw [hcs]; rfl
 have e2 : cx[2]? = some (.int .i64 l[k].cl) := by rw [hcs]; rfl
 have CE : Hid (RRown w cx l[k]) := Hh ⟨_, vt, vm, hcs, hwf, hnm, htg, hml, by assumption⟩
 have DS : Hid (∀ W, Below w.heap.size w W → Calls prog 278 #[.slice An l[k].name.length cn, .slice A n.length c] W (RetB (.bool (decide (lowN l[k].name = lowN n))) W)) := Hh (fun W hb => dsame_any An A l[k].name n cn c W (hNn.below hb) (hN.below hb))
 have HO := Hh ho
 have hole : (ofR (l.take k) n ty cl).length ≤ 65535 := by
  have : (ofR (l.take k) n ty cl).length ≤ (l.take k).length := List.length_filter_le _ _
  simp at this; omega
 clear hcs hwf hnm htg hml hNn ho hr hN hL
 obtain ⟨same, hsame⟩ : ∃ b : Bool, decide (lowN l[k].name = lowN n) = b := ⟨_, rfl⟩
 have IR : Hid (∀ t' c', isR n t' c' l[k] = (decide (l[k].ty = t') && (decide (l[k].cl = c') && same))) := Hh (fun t' c' => by rw [isR_eq, hsame])
 rw [hsame] at DS
 clear hsame
 obtain ⟨R, hR⟩ : ∃ R, Hid (ofR (l.take k) n ty cl = R) := ⟨_, Hh rfl⟩
 rw [hR.out] at HO hole SF ⊢
 obtain ⟨li, hli⟩ : ∃ li, Hid (linkI ty cl n (l.take k) 0 (-1) = li) := ⟨_, Hh rfl⟩
 rw [hli.out] at SL ⊢
 have hrz : rrZ.length = 33 := rrZ_len
 have W1 : Below wr.heap.size wr (wr.alloc (.cells rrZ.toArray 96)) := (Below.refl _ _).alloc (Nat.le_refl _) _
 have BX1 := BX.below W1 BX.lt
 generalize hrr : l[k] = r at *
 have HRR := Hh hrr
 clear hrr
 generalize r.name.length = nl at *
 generalize r.ty = rt at *
 generalize r.cl = rc at *
 go_wp2_with (first
  | (refine at_op (.load 96 (.tmp 17)) rfl ?_; go_must (refine wpList_ldR rfl 96 (.tmp 17) rfl gs (k * 33) rfl cx hcx _ underlying96 rfl (by rw [hcl]; exact rrI33) ?_))
  | (refine at_op (.store 96 (.tmp 11) (.tmp 18)) rfl ?_; go_must (refine wpList_stB rfl _ _ _ rfl wr.heap.size 0 rfl cx rfl (Blk.new wr 96 rrZ) (by omega) (by rw [hcl]; exact rrI33) hone ?_)))
 intro w1 B1 g1 sw
 clear sw
 have B1' := blkAll B1 (by omega)
 have K1 := below_grown W1 g1 W1.size (Nat.le_refl _)
 have H1 := below_then hB hB.size K1
 have BX2 := BX.below K1 BX.lt
 have d0 := B1'.cell_ 0 e0
 have d1 := B1'.cell_ 1 e1
 have d2 := B1'.cell_ 2 e2
 have q1 := BX2.cell_ 1 rfl
 have q2 := BX2.cell_ 2 rfl
 have O1 := Hh (RRsOwn.below HO.out K1)
 clear B1 g1 W1 hcx BX BX1 HO e0 e1 e2
 have UN : Hid (isR n ty cl r = false → ¬ (li < 0 ∧ rt ≠ ty ∧ isR n 5 cl r = true) → linkI ty cl n (l.take (k + 1)) 0 (-1) = li ∧ ofR (l.take (k + 1)) n ty cl = R) := Hh (fun h1 h2 => ⟨by rw [SL.out, if_neg h2], by rw [SF.out, h1]; simp⟩)
 by_cases hc : rc = cl
 case neg =>
  have hc' : (rc != cl) = true := by simpa using hc
  obtain ⟨u1, u2⟩ := UN.out (by rw [IR.out, decide_eq_false hc]; simp) (fun h => by have := h.2.2; rw [IR.out, decide_eq_false hc] at this; simp at this)
  have U1 := Hh u1
  have U2 := Hh u2
  clear u1 u2 hc UN SF SL
  go_wp2_with fail
  go_roundw
  case rel => exact ⟨k + 1, by omega, by go_num, by rw [U1.out], by rw [U2.out]; exact O1.out, H1, BX2⟩
  case measure => simp [intOf]; omega
 subst hc
 have NC : Hid (same = false → linkI ty rc n (l.take (k + 1)) 0 (-1) = li ∧ ofR (l.take (k + 1)) n ty rc = R) := Hh (fun h => UN.out (by rw [IR.out, h]; simp) (fun h' => by have := h'.2.2; rw [IR.out, h] at this; simp at this))
 by_cases ht : rt = ty
 case pos =>
  subst ht
  have SL2 : Hid (linkI rt rc n (l.take (k + 1)) 0 (-1) = li) := Hh (by rw [SL.out, if_neg (fun h => h.2.1 rfl)])
  have SF2 : Hid (same = true → ofR (l.take (k + 1)) n rt rc = R ++ [r]) := Hh (fun h => by rw [SF.out, IR.out, h]; simp)
  clear SL SF UN IR
  go_wp2_with fail
  refine (DS.out _ H1).mono ?_
  rintro _ w2 ⟨rfl, b2⟩
  have H2 := below_then H1 H1.size b2
  have BX3 := BX2.below b2 BX2.lt
  have O2 := Hh (RRsOwn.below O1.out b2)
  cases same with
  | false =>
   obtain ⟨u1, u2⟩ := NC.out rfl
   have U1 := Hh u1
   have U2 := Hh u2
   clear u1 u2 NC SF2 SL2
   go_wp2_with fail
   go_roundw
   case rel => exact ⟨k + 1, by omega, by go_num, by rw [U1.out], by rw [U2.out]; exact O2.out, H2, BX3⟩
   case measure => simp [intOf]; omega
  | true =>
   have U2 := Hh (SF2.out rfl)
   clear NC SF2
   have B2' := B1'.below b2 B1'.lt
   have f1 := B2'.cell_ 1 (by rw [← B1'.cell 1]; exact d1)
   have g1 := BX3.cell_ 1 rfl
   have CE2 := Hh (CE.out.stays (Stays.below H2))
   clear d0 d1 d2 q1 q2 b2 BX2 O1 H1 K1 B1' DS
   go_wp2_with (first
    | (refine at_op (.load 96 (.tmp 11)) rfl ?_; go_must (refine wpList_ldB rfl _ _ rfl wr.heap.size 0 rfl B2' 33 (by omega) _ underlying96 rfl rrI33 cx (tk0 (by omega)) ?_))
    | (refine at_op (.buildSlice 44 1 #[(0, .tmp 51)]) rfl ?_; go_must (refine wpList_bsN rfl 44 96 _ 33 208 underlying44 rrInfo3' (by decide) (by decide) (.tmp 51) rfl cx rfl hcl ?_)))
   intro w3 B3 K3
   have O3 := RRsOwn.below O2.out K3
   have N3 := LOwn.ne O2.out (Nat.le_refl _)
   have H3 := below_then H2 H2.size K3
   have BX4 := BX3.below K3 BX3.lt
   have CE3 := CE2.out.stays (Stays.below K3)
   clear f1 g1 K3 O2 CE2 B2' H2 BX3
   go_wp2_with (at_builtin; go_must (refine wpList_app1 _ rfl _ _ 44 rfl 96 _ 33 208 underlying44 rrInfo3' (by kernel_rfl) (by decide) w.heap.size _ _ rfl O3 H3.size w2.heap.size cx r rfl B3 N3 hcl hone CE3 (by simp only [maxLen]; omega) (by omega) ?_))
   intro v5 w5 O5 g5
   have hbs := O3.base
   have hso : Stays w3 w5 := by
    obtain ⟨_, o4, _⟩ := O3
    exact Stays.own o4 (by decide) g5
   have H5 := H3.grown g5 H3.size hbs
   have BX5 : Blk w5 w.heap.size 218 [vq, .int .i64 rt, .int .i64 rc] := by
    obtain ⟨_, o4, _⟩ := O3
    exact blk_own BX4 o4 (by decide) g5
   have O6 : RRsOwn w5 w.heap.size v5 (R ++ [r]) := LOwn.stays O5 (fun _ x => x) (fun _ _ x => x.stays hso)
   clear g5 O3 O5 H3 B3 N3 BX4 hso
   go_wp2_with fail
   go_roundw
   case rel => exact ⟨k + 1, by omega, by go_num, by rw [SL2.out], by rw [U2.out]; exact O6, H5, BX5⟩
   case measure => simp [intOf]; omega
 have ht' : (rt != ty) = true := by simpa using ht
 have ht'' : (rt == ty) = false := by simpa using ht
 have SF2 : Hid (ofR (l.take (k + 1)) n ty rc = R) := Hh (by rw [SF.out, IR.out, decide_eq_false ht]; simp)
 by_cases h5 : rt = 5
 case neg =>
  have h5' : (rt != 5) = true := by simpa using h5
  obtain ⟨u1, u2⟩ := UN.out (by rw [IR.out, decide_eq_false ht]; simp) (fun h => by have := h.2.2; rw [IR.out, decide_eq_false h5] at this; simp at this)
  have U1 := Hh u1
  have U2 := Hh u2
  clear u1 u2 h5 ht UN SF SL NC SF2
  go_wp2_with fail
  go_roundw
  case rel => exact ⟨k + 1, by omega, by go_num, by rw [U1.out], by rw [U2.out]; exact O1.out, H1, BX2⟩
  case measure => simp [intOf]; omega
 by_cases hli0 : li < 0
 case neg =>
  have hli' : decide (0 ≤ li) = true := by simp; omega
  have hli'' : 0 ≤ li := by omega
  have U1 : Hid (linkI ty rc n (l.take (k + 1)) 0 (-1) = li) := Hh (by rw [SL.out, if_neg (fun h => hli0 h.1)])
  have U2 := SF2
  subst h5
  clear ht UN SF SL NC SF2 hli0
  go_wp2_with fail
  go_roundw
  case rel => exact ⟨k + 1, by omega, by go_num, by rw [U1.out], by rw [U2.out]; exact O1.out, H1, BX2⟩
  case measure => simp [intOf]; omega
 have hli' : decide (0 ≤ li) = false := by simp; omega
 subst h5
 have SL2 : Hid (same = true → linkI ty rc n (l.take (k + 1)) 0 (-1) = k) := Hh (fun h => by rw [SL.out, if_pos ⟨hli0, ht, by rw [IR.out, h]; simp⟩])
 clear SL SF UN IR ht
 go_wp2_with fail
 refine (DS.out _ H1).mono ?_
 rintro _ w2 ⟨rfl, b2⟩
 have H2 := below_then H1 H1.size b2
 have BX3 := BX2.below b2 BX2.lt
 have O2 := Hh (RRsOwn.below O1.out b2)
 cases same with
 | false =>
  obtain ⟨u1, u2⟩ := NC.out rfl
  have U1 := Hh u1
  have U2 := Hh u2
  clear u1 u2 NC SF2 SL2
  go_wp2_with fail
  go_roundw
  case rel => exact ⟨k + 1, by omega, by go_num, by rw [U1.out], by rw [U2.out]; exact O2.out, H2, BX3⟩
  case measure => simp [intOf]; omega
 | true =>
  have U1 := Hh (SL2.out rfl)
  have U2 := SF2
  have B2' := B1'.below b2 B1'.lt
  have f1 := B2'.cell_ 1 (by rw [← B1'.cell 1]; exact d1)
  have g1 := BX3.cell_ 1 rfl
  clear NC SL2 d0 d1 d2 q1 q2 b2 BX2 O1 H1 K1 B1' DS
  go_wp2_with fail
  go_roundw
  case rel => exact ⟨k + 1, by omega, by go_num, by rw [U1.out], by rw [U2.out]; exact O2.out, H2, BX3⟩
  case measure => simp [intOf]; omega
def LeastRet (gt gc : Nat) (t : Option Int) (w : World) (e : Ending) (w' : World) : Prop := e = .returned (.tuple #[]) ∧ ∃ w1 u, w.grownBy w1 (some gt) ∧ w1.grownBy w' (some gc) ∧ Blk w1 gc 4 [.bool u] ∧ Blk w' gt 3 [.int .i64 (t.getD 0)] ∧ Blk w' gc 4 [.bool t.isSome]
theorem least_any (n : Int) (gt gc : Nat) (t : Option Int) (w : World) (h1 : Blk w gt 3 [.int .i64 (t.getD 0)]) (h2 : Blk w gc 4 [.bool t.isSome]) (hne : gt ≠ gc) :
  Calls prog 264 #[.int .i64 n, .pointer (some ⟨gc, 0, none⟩), .pointer (some ⟨gt, 0, none⟩)] w (LeastRet gt gc (leastT t n) w) := by
 have f1 := h1.frozen 0
 have f2 := h2.frozen 0
 have SET : Hid (∀ u : Option Int, u = some n → LeastRet gt gc u w (.returned (.tuple #[])) ((w.setCell ⟨gt, 0, none⟩ (.int .i64 n)).setCell ⟨gc, 0, none⟩ (.bool true))) := Hh (fun u hu => by
  subst hu
  exact ⟨rfl, _, t.isSome, grown_set (World.grownBy.refl _ _) 0 _, grown_set (World.grownBy.refl _ _) 0 _, h2.far (p := ⟨gt, 0, none⟩) (Ne.symm hne) _, (h1.set 0 _).far (p := ⟨gc, 0, none⟩) hne _, (h2.far (p := ⟨gt, 0, none⟩) (Ne.symm hne) _).set 0 _⟩)
 have KEEP : Hid (LeastRet gt gc t w (.returned (.tuple #[])) w) := Hh ⟨rfl, w, t.isSome, World.grownBy.refl _ _, World.grownBy.refl _ _, h2, h1, h2⟩
 cases t with
 | none =>
  have c1 := h1.cell_ 0 (u := .int .i64 0) rfl
  have c2 := h2.cell_ 0 (u := .bool false) rfl
  have S := Hh (SET.out (leastT none n) rfl)
  clear h1 h2 SET KEEP
  go_enter func264, ntmps264
  go_wp2_with fail
  go_end0
  exact S.out
 | some m =>
  have c1 := h1.cell_ 0 (u := .int .i64 m) rfl
  have c2 := h2.cell_ 0 (u := .bool true) rfl
  by_cases hlt : n < m
  ·
   have S := Hh (SET.out (leastT (some m) n) (if_pos hlt))
   have hlt' : decide (n < m) = true := by simpa using hlt
   clear h1 h2 SET KEEP
   go_enter func264, ntmps264
   go_wp2_with fail
   go_end0
   exact S.out
  ·
   have e : leastT (some m) n = some m := if_neg hlt
   rw [e]
   have hlt' : decide (n < m) = false := by simpa using hlt
   clear h1 h2 SET e
   go_enter func264, ntmps264
   go_wp2_with fail
   go_end0
   exact KEEP.out
def FolRet (o : Except Int Fnd) (w : World) (e : Ending) (w' : World) : Prop := match o with
 | .ok f => ∃ An cn A c, e = .returned (.tuple #[.agg #[.slice An f.name.length cn, .slice A f.recs.length c, .int .i64 (f.ttl.getD 0), .int .i64 f.links], .int .i64 0]) ∧ Txts w' (.slice An f.name.length cn) f.name ∧ RRsOwn w' 0 (.slice A f.recs.length c) f.recs ∧ Below w.heap.size w w'
 | .error x => ∃ An nn cn A n c a b, e = .returned (.tuple #[.agg #[.slice An nn cn, .slice A n c, .int .i64 a, .int .i64 b], .int .i64 x]) ∧ Below w.heap.size w w'
theorem fndI4 : (prog.info? 334).map (·.size) = some 4 := by kernel_rfl
theorem followQ_eq (q : Qn) (l : List RR) (f k : Nat) (n : List (List UInt8)) (t : Option Int) : followQ q l f k n t = match ofR l n q.ty q.cl with
  | r :: rs => .ok ⟨n, r :: rs, (r :: rs).foldl (fun t r => leastT t r.ttl) t, k⟩
  | [] => match ofR l n 5 q.cl with
   | [] => .error 11
   | r :: _ => match f with
    | 0 => .error 15
    | f + 1 => followQ q l f (k + 1) r.tg (leastT t r.ttl) := by
 conv => lhs; unfold followQ
 all_goals rfl
set_option maxHeartbeats 2000000 in
theorem follow_any (q : Qn) (A Al : Option Addr) (c cA : Nat) (l : List RR) (w : World) (hN : NmR w A c q.name) (hn : q.name.length ≤ 100000) (hL : RRsOwn w 0 (.slice Al l.length cA) l) (hl : l.length ≤ 65535) :
  Calls prog 224 #[.agg #[.slice A q.name.length c, .int .i64 q.ty, .int .i64 q.cl], .slice Al l.length cA] w (FolRet (followQ q l 16 0 q.name none) w) := by
 obtain ⟨F, hF⟩ : ∃ F, Hid (followQ q l 16 0 q.name none = F) := ⟨_, Hh rfl⟩
 rw [hF.out]
 have LK := Hh (fun (An : Option Addr) (cn : Nat) (n : List (List UInt8)) (W : World) (hb : Below w.heap.size w W) (h : NmR w An cn n) => look_any (.slice A q.name.length c) q.ty q.cl An Al cn cA n l W (h.below hb) (hL.below hb) hl)
 have LE := Hh (fun n gt gc t W h1 h2 h3 => least_any n gt gc t W h1 h2 h3)
 obtain ⟨fz, hfz⟩ : ∃ fz : List Value, fz = [.slice none 0 0, .slice none 0 0, .int .i64 0, .int .i64 0] := ⟨_, rfl⟩
 obtain ⟨X, hX⟩ : ∃ X, (((w.alloc (.cells #[.slice A q.name.length c, .int .i64 q.ty, .int .i64 q.cl] 218)).alloc (.cells #[.slice none 0 0, .slice none 0 0, .int .i64 0, .int .i64 0] 334)).alloc (.cells #[.int .i64 0] 3)).alloc (.cells #[.bool false] 4) = X := ⟨_, rfl⟩
 have HX : Below w.heap.size w X := by rw [← hX]; exact ((((Below.refl _ _).alloc (Nat.le_refl _) _).alloc (by simp) _).alloc (by simp; omega) _).alloc (by simp; omega) _
 have X1 : Blk X w.heap.size 218 [.slice A q.name.length c, .int .i64 q.ty, .int .i64 q.cl] := by rw [← hX]; exact (((Blk.new w _ _).alloc _).alloc _).alloc _
 have X2 : Blk X (w.heap.size + 1) 334 fz := by rw [← hX, hfz]; exact ((Blk.new' _ _ _ _ (by simp)).alloc _).alloc _
 have X3 : Blk X (w.heap.size + 1 + 1) 3 [.int .i64 ((none : Option Int).getD 0)] := by rw [← hX]; exact (Blk.new' _ _ _ _ (by simp)).alloc _
 have X4 : Blk X (w.heap.size + 1 + 1 + 1) 4 [.bool (none : Option Int).isSome] := by rw [← hX]; exact Blk.new' _ _ _ _ (by simp)
 have hX' := Hh hX
 clear hX
 go_enter func224, ntmps224
 go_wp2_with fail
 rw [hX'.out]
 have h2 : w.heap.size ≤ w.heap.size + 1 := by omega
 have h3 : w.heap.size ≤ w.heap.size + 1 + 1 := by omega
 have h4 : w.heap.size ≤ w.heap.size + 1 + 1 + 1 := by omega
 have n34 : w.heap.size + 1 + 1 ≠ w.heap.size + 1 + 1 + 1 := by omega
 have n13 : w.heap.size ≠ w.heap.size + 1 + 1 := by omega
 have n14 : w.heap.size ≠ w.heap.size + 1 + 1 + 1 := by omega
 have n23 : w.heap.size + 1 ≠ w.heap.size + 1 + 1 := by omega
 have n24 : w.heap.size + 1 ≠ w.heap.size + 1 + 1 + 1 := by omega
 clear hX'
 generalize w.heap.size + 1 + 1 + 1 = gc at *
 generalize w.heap.size + 1 + 1 = gt at *
 generalize w.heap.size + 1 = g2 at *
 have hfl : fz.length = 4 := by rw [hfz]; rfl
 clear hfz
 go_loopw [6, 10] (fun nv kv wr => ∃ (k : Nat) (n : List (List UInt8)) (An : Option Addr) (cn : Nat) (t : Option Int), nv = .slice An n.length cn ∧ kv = .int .i64 k ∧ k ≤ 16 ∧ NmR w An cn n ∧ n.length ≤ 100000 ∧ Hid (followQ q l (16 - k) k n t = F) ∧ Blk wr gt 3 [.int .i64 (t.getD 0)] ∧ Blk wr gc 4 [.bool t.isSome] ∧ Blk wr w.heap.size 218 [.slice A q.name.length c, .int .i64 q.ty, .int .i64 q.cl] ∧ Blk wr g2 334 fz ∧ Below w.heap.size w wr) (fun _ kv _ => 17 - (intOf kv).toNat)
 case atStart => exact ⟨0, q.name, A, c, none, rfl, rfl, by omega, hN, hn, hF, X3, X4, X1, X2, HX⟩
 clear X1 X2 X3 X4 HX hN hn
 obtain ⟨k, n, An, cn, t, rfl, rfl, hk, hNm, hnl, HF, B3, B4, B1, B2, hB⟩ := hrel
 have LKn := Hh (LK.out An cn n wr hB hNm)
 generalize hQ : [Value.slice A q.name.length c, .int .i64 q.ty, .int .i64 q.cl] = Qc at *
 have hQl : Qc.length = 3 := by rw [← hQ]; rfl
 rw [followQ_eq] at HF
 have HLK := Hh (linkI_of q.ty q.cl n l 0)
 obtain ⟨li, hli⟩ : ∃ li, linkI q.ty q.cl n l 0 (-1) = li := ⟨_, rfl⟩
 rw [hli] at LKn HLK
 clear hli hQ LK
 go_wp2_with (refine at_op (.load 218 (.tmp 2)) rfl ?_; go_must (refine wpList_ldB rfl _ _ rfl w.heap.size 0 rfl B1 3 (by omega) _ underlying218 rfl qInfo Qc (tk0 (by omega)) ?_))
 refine LKn.out.mono ?_
 rintro _ w1 ⟨Ar, cr, rfl, hR, b1⟩
 have E1 := B1.below b1 B1.lt
 have E2 := B2.below b1 B2.lt
 have E3 := B3.below b1 B3.lt
 have E4 := B4.below b1 B4.lt
 have H1 := below_then hB hB.size b1
 have HR : Hid (RRsOwn w1 0 (.slice Ar (ofR l n q.ty q.cl).length cr) (ofR l n q.ty q.cl)) := Hh (LOwn.zero hR)
 clear b1 B1 B2 B3 B4 hB LKn hR
 obtain ⟨rs, hrs⟩ : ∃ rs, Hid (ofR l n q.ty q.cl = rs) := ⟨_, Hh rfl⟩
 rw [hrs.out] at HF HR ⊢
 cases rs with
 | cons r0 rs =>
  have hpos : 0 < (r0 :: rs).length := by simp
  have HF2 : Hid (F = .ok ⟨n, r0 :: rs, (r0 :: rs).foldl (fun t r => leastT t r.ttl) t, k⟩) := Hh (by rw [← HF.out])
  have hrl : (r0 :: rs).length ≤ 65535 := by
   rw [← hrs.out]
   exact Nat.le_trans (List.length_filter_le _ _) hl
  clear HF HLK hrs
  generalize r0 :: rs = R at *
  have hpos' : (0 : Int) < R.length := by omega
  go_wp2_with fail
  obtain ⟨wo, hwo⟩ : ∃ wo : World, w1 = wo := ⟨_, rfl⟩
  subst hwo
  go_loopw [32] (fun iv wx => ∃ (j : Nat) (u : Option Int), j ≤ R.length ∧ iv = .int .i64 j ∧ Hid ((R.take j).foldl (fun t r => leastT t r.ttl) t = u) ∧ Blk wx gt 3 [.int .i64 (u.getD 0)] ∧ Blk wx gc 4 [.bool u.isSome] ∧ Blk wx g2 334 fz ∧ Below w.heap.size w wx ∧ Hid (RRsOwn wx 0 (.slice Ar R.length cr) R)) (fun iv _ => R.length - (intOf iv).toNat)
  case atStart => exact ⟨0, t, Nat.zero_le _, rfl, Hh rfl, E3, E4, E2, H1, HR⟩
  clear E1 E2 E3 E4 H1 HR
  obtain ⟨j, u, hj, rfl, HU, D3, D4, D2, hB, HR⟩ := hrel
  by_cases hlt : j < R.length
  case pos =>
   have hlt' : (j : Int) < R.length := by omega
   obtain ⟨gs, hA, hgs, hr⟩ := LOwn.at_ (fun _ _ h => h.len) HR.out hpos
   obtain ⟨cx, hcx, hce⟩ := hr j hlt
   rw [Nat.zero_add] at hcx
   have hcl := hce.len
   have hone := hce.one
   have e3 : cx[3]? = some (.int .i64 R[j].ttl) := by obtain ⟨vn, vt, vm, hcs, _⟩ := hce; rw [hcs]; rfl
   have HU2 : Hid ((R.take (j + 1)).foldl (fun t r => leastT t r.ttl) t = leastT u R[j].ttl) := Hh (by rw [List.take_succ_eq_append_getElem hlt, List.foldl_append, HU.out]; rfl)
   subst hA
   have hrz : rrZ.length = 33 := rrZ_len
   have W1 : Below wr.heap.size wr (wr.alloc (.cells rrZ.toArray 96)) := (Below.refl _ _).alloc (Nat.le_refl _) _
   clear hce hr HU
   generalize R[j].ttl = tl at *
   go_wp2_with (first
    | (refine at_op (.load 96 (.tmp 34)) rfl ?_; go_must (refine wpList_ldR rfl 96 (.tmp 34) rfl gs (j * 33) rfl cx hcx _ underlying96 rfl (by rw [hcl]; exact rrI33) ?_))
    | (refine at_op (.store 96 (.tmp 14) (.tmp 35)) rfl ?_; go_must (refine wpList_stB rfl _ _ _ rfl wr.heap.size 0 rfl cx rfl (Blk.new wr 96 rrZ) (by omega) (by rw [hcl]; exact rrI33) hone ?_)))
   intro w3 B5 g5 sw
   clear sw
   have B5' := blkAll B5 (by omega)
   have K1 := below_grown W1 g5 W1.size (Nat.le_refl _)
   have d3 := B5'.cell_ 3 e3
   replace D2 := D2.below K1 D2.lt
   replace D3 := D3.below K1 D3.lt
   replace D4 := D4.below K1 D4.lt
   replace HR := Hh (RRsOwn.below HR.out K1)
   replace hB := below_then hB hB.size K1
   clear B5 B5' g5 W1 K1 hcx e3
   go_wp2_with fail
   refine (LE.out _ _ _ _ _ D3 D4 n34).mono ?_
   rintro _ w5 ⟨rfl, w4, u4, g4, g5, C4, F3, F4⟩
   have G2 := (D2.grown g4 (by simp; exact n23)).grown g5 (by simp; exact n24)
   have HB5 := below_grown (below_grown hB g4 hB.size h3) g5 (Nat.le_trans hB.size g4.size) h4
   have HR5 := Hh ((RRsOwn.blk HR.out g4 D3 (by decide) (by decide)).blk g5 C4 (by decide) (by decide))
   clear g4 g5 C4 D2 D3 D4 HR hB d3
   go_wp2_with fail
   go_roundw
   case rel => exact ⟨j + 1, leastT u tl, by omega, by go_num, HU2, F3, F4, G2, HB5, HR5⟩
   case measure => simp [intOf]; omega
  case neg =>
   have hlt' : ¬ (j : Int) < R.length := by omega
   rw [List.take_of_length_le (by omega)] at HU
   have HF3 : Hid (F = .ok ⟨n, R, u, k⟩) := Hh (by rw [HF2.out, HU.out])
   have CL := Hh (fun W hb => clone_any An cn n W (hNm.below hb) hnl)
   have RB : Hid (∀ (Ac : Option Addr) (cc : Nat) (W : World), (Instr.build 334 #[(0, .slice Ac n.length cc), (1, .slice Ar R.length cr), (2, .int .i64 (u.getD 0)), (3, .int .i64 k)]).run prog W = .ok (.agg [Value.slice Ac n.length cc, .slice Ar R.length cr, .int .i64 (u.getD 0), .int .i64 k].toArray) W) := Hh (fun Ac cc W => by kernel_rfl)
   clear HF2 HU D4 hpos hpos' LE
   obtain ⟨uv, huv⟩ : ∃ uv, Hid (u.getD 0 = uv) := ⟨_, Hh rfl⟩
   rw [huv.out] at D3 RB
   go_wp2_with fail
   refine wp_region_held_drew (S := fun V => Blk V gt 3 [.int .i64 uv]) (by kernel_rfl) D3.drew (fun hS => ?_)
   have HD : Below wr.heap.size wr wr.drew := (Below.refl _ _).drew
   refine held_seq hS 4 [0,2,3,4] rfl (by kernel_rfl) (fun _ _ _ _ _ h => h) rfl rfl ?_
   repeat (refine ⟨_, _, rfl, .inl ⟨rfl, fun W hW => rfl⟩, ?_⟩; simp only [Act.put, lsA, lsB, lsC])
   (refine ⟨_, _, rfl, .inl ⟨rfl, fun V hV => (exec_ld 3 (.tmp 7) ⟨gt, 0, none⟩ rfl rfl (run_load1 underlying3 rfl (hV.cell_ 0 rfl)))⟩, ?_⟩; simp only [Act.put, lsA, lsB, lsC])
   repeat (refine ⟨_, _, rfl, .inl ⟨rfl, fun W hW => rfl⟩, ?_⟩; simp only [Act.put, lsA, lsB, lsC])
   simp only [SeqC]
   refine held_call 1 (some 42) 125 #[.slice An n.length cn] (by kernel_rfl) rfl rfl (by kernel_rfl) (by go_simp) (CL.out _ (below_then hB hB.size HD)) ?_
   rintro _ w6 ⟨Ac, cc, rfl, o6, b6⟩
   have hS := hS.below b6 hS.lt
   have HD := below_then HD HD.size b6
   refine ⟨_, rfl, hS, ?_⟩
   simp only [Act.put, lsA, lsB, lsC]
   refine held_seq hS 1 [5] rfl (by kernel_rfl) (fun _ _ _ _ _ h => h) rfl rfl ?_
   (refine ⟨_, (.agg [Value.slice Ac n.length cc, .slice Ar R.length cr, .int .i64 uv, .int .i64 k].toArray), rfl, .inl ⟨rfl, fun V hV => (exec_bldH 334 _ rfl #[(0, .slice Ac n.length cc), (1, .slice Ar R.length cr), (2, .int .i64 uv), (3, .int .i64 k)] (by kernel_rfl) (RB.out Ac cc V))⟩, ?_⟩; simp only [Act.put, lsA, lsB, lsC])
   simp only [SeqC]
   refine held_stB 6 none 334 (.tmp 4) (.tmp 46) (by kernel_rfl) rfl rfl rfl (by kernel_rfl) g2 0 rfl [Value.slice Ac n.length cc, .slice Ar R.length cr, .int .i64 uv, .int .i64 k] rfl (D2.below HD D2.lt) (by rw [hfl]; simp) fndI4 (by simp [Value.oneCell']) ?_
   intro w7 B7 g7 s7
   rw [List.take_zero, List.nil_append, Nat.zero_add] at B7
   have B7' := blkAll B7 (Nat.le_of_eq hfl)
   have T7 : Txts w7 (.slice Ac n.length cc) n := (Stays.blk g7 (D2.below HD D2.lt) (by decide)) _ _ (own_zero o6)
   have R7 := RRsOwn.blk (RRsOwn.below HR.out HD) g7 (D2.below HD D2.lt) (by decide) (by decide)
   have H7 := below_grown (below_then hB hB.size HD) g7 (Nat.le_trans hB.size HD.size) h2
   have hS := hS.grown g7 (by simp; omega)
   refine ⟨hS, ?_⟩
   simp only [Act.put, lsA, lsB, lsC]
   refine held_seq hS 1 [7] rfl (by kernel_rfl) (fun _ _ _ _ _ h => h) rfl rfl ?_
   repeat (refine ⟨_, _, rfl, .inl ⟨rfl, fun W hW => rfl⟩, ?_⟩; simp only [Act.put, lsA, lsB, lsC])
   simp only [SeqC]
   refine wpAnyH_done (by kernel_rfl) ?_ _
   go_wp2_with fail
   refine ret_cell_tmp rfl g2 rfl B7' _ underlying334 rfl fndI4 rfl (.int .i64 0) rfl ?_
   rw [HF3.out]
   exact ⟨Ac, cc, Ar, cr, by rw [huv.out], T7, R7, H7⟩
 | nil =>
  have HK := HLK.out hrs.out
  clear HLK hrs HR
  have hz : decide ((0 : Int) < ([] : List RR).length) = false := rfl
  cases h5 : ofR l n 5 q.cl with
  | nil =>
   rw [h5] at HK HF
   have HF3 : Hid (F = .error 11) := Hh (by rw [← HF.out])
   subst HK
   have CL := Hh (fun W hb => clone_any An cn n W (hNm.below hb) hnl)
   have RB : Hid (∀ (Ac : Option Addr) (cc : Nat) (W : World), (Instr.build 334 #[(0, .slice Ac n.length cc), (3, .int .i64 k)]).run prog W = .ok (.agg [Value.slice Ac n.length cc, .slice none 0 0, .int .i64 0, .int .i64 k].toArray) W) := Hh (fun Ac cc W => by kernel_rfl)
   clear HF h5 LE
   go_wp2_with fail
   refine (CL.out _ H1).mono ?_
   rintro _ w6 ⟨Ac, cc, rfl, o6, b6⟩
   have E2' := E2.below b6 E2.lt
   have H6 := below_then H1 H1.size b6
   clear b6 E2 E3 E4 E1 H1
   go_wp2_with (first
    | (refine at_op (.build 334 #[(0, .tmp 50), (3, .tmp 51)]) rfl ?_; go_must (refine wpList_bld rfl 334 _ rfl #[(0, .slice Ac n.length cc), (3, .int .i64 k)] (by simp [Act.eval, Act.put]) (RB.out Ac cc _) ?_))
    | (refine at_op (.store 334 (.tmp 4) (.tmp 52)) rfl ?_; go_must (refine wpList_stB rfl _ _ _ rfl g2 0 rfl [Value.slice Ac n.length cc, .slice none 0 0, .int .i64 0, .int .i64 k] rfl E2' (by rw [hfl]; simp) fndI4 (by simp [Value.oneCell']) ?_)))
   intro w7 B7 g7 sw
   clear sw
   have B7' := blkAll (L := [Value.slice Ac n.length cc, .slice none 0 0, .int .i64 0, .int .i64 k]) B7 (Nat.le_of_eq hfl)
   have H7 := below_grown H6 g7 H6.size h2
   go_wp2_with fail
   refine ret_cell_tmp rfl g2 rfl B7' _ underlying334 rfl fndI4 rfl (.int .i64 11) rfl ?_
   rw [HF3.out]
   exact ⟨_, _, _, _, _, _, _, _, rfl, H7⟩
  | cons r tail =>
   rw [h5] at HK HF
   obtain ⟨j, hj, hr⟩ := HK
   rw [Nat.zero_add] at hj
   subst hj
   obtain ⟨hjl, hjr⟩ := List.getElem?_eq_some_iff.1 hr
   have hj0 : decide ((j : Int) < 0) = false := by simp
   have hjl' : (j : Int) < l.length := by omega
   obtain ⟨gs, hA, hgs, hrow⟩ := LOwn.at_ (fun _ _ h => h.len) hL (by omega)
   obtain ⟨cx, hcx, hce⟩ := hrow j hjl
   rw [hjr] at hce
   subst hA
   rw [Nat.zero_add] at hcx
   replace hcx := range_below hcx H1 hgs
   obtain ⟨vn, vt, vm, hcs, hwf, hnm, htg, hml, _⟩ := hce
   obtain ⟨At, ct, hv, hNt⟩ := htg.form
   subst hv
   have c3 := hcx 3 (.int .i64 r.ttl) (by rw [hcs]; rfl)
   have c22 := hcx 22 (.slice At r.tg.length ct) (by rw [hcs]; exact rrC_22 hwf)
   have htl : r.tg.length ≤ 100000 := by
    obtain ⟨h6, h7⟩ := checkN_ok htg.2
    have := lsum_ge r.tg
    omega
   clear hcs hwf hnm htg hml hrow hcx hr hjr h5
   by_cases hk16 : k = 16
   case pos =>
    have hk' : ((k : Int) == 16) = true := by simp; omega
    have HF3 : Hid (F = .error 15) := Hh (by rw [← HF.out]; subst hk16; rfl)
    have RB : Hid (∀ (W : World), (Instr.build 334 #[]).run prog W = .ok (.agg [Value.slice none 0 0, .slice none 0 0, .int .i64 0, .int .i64 0].toArray) W) := Hh (fun W => by kernel_rfl)
    clear HF LE hk16
    go_wp2_with (first
     | (refine at_op (.build 334 #[]) rfl ?_; go_must (refine wpList_bld rfl 334 _ rfl #[] (by simp [Act.eval, Act.put]) (RB.out _) ?_))
     | (refine at_op (.store 334 (.tmp 4) (.tmp 55)) rfl ?_; go_must (refine wpList_stB rfl _ _ _ rfl g2 0 rfl [Value.slice none 0 0, .slice none 0 0, .int .i64 0, .int .i64 0] rfl E2 (by rw [hfl]; simp) fndI4 (by simp [Value.oneCell']) ?_)))
    intro w7 B7 g7 sw
    clear sw
    have B7' := blkAll (L := [Value.slice none 0 0, .slice none 0 0, .int .i64 0, .int .i64 0]) B7 (Nat.le_of_eq hfl)
    have H7 := below_grown H1 g7 H1.size h2
    go_wp2_with fail
    refine ret_cell_tmp rfl g2 rfl B7' _ underlying334 rfl fndI4 rfl (.int .i64 15) rfl ?_
    rw [HF3.out]
    exact ⟨_, _, _, _, _, _, _, _, rfl, H7⟩
   case neg =>
    have hk' : ((k : Int) == 16) = false := by simp; omega
    have HF3 : Hid (followQ q l (16 - (k + 1)) (k + 1) r.tg (leastT t r.ttl) = F) := Hh (by
     rw [← HF.out, show 16 - k = (16 - (k + 1)) + 1 by omega])
    clear HF
    generalize r.ttl = tl at *
    go_wp2_with fail
    refine (LE.out _ _ _ _ _ E3 E4 n34).mono ?_
    rintro _ w5 ⟨rfl, w4, u4, g4, g5, C4, F3, F4⟩
    have G1 := (E1.grown g4 (by simp; exact n13)).grown g5 (by simp; exact n14)
    have G2 := (E2.grown g4 (by simp; exact n23)).grown g5 (by simp; exact n24)
    have HB5 := below_grown (below_grown H1 g4 H1.size h3) g5 (Nat.le_trans H1.size g4.size) h4
    have c22' : w5.cell? ⟨gs, j * 33 + 22, none⟩ = some (.slice At r.tg.length ct) := by
     rw [← c22, HB5.cell (p := ⟨gs, _, none⟩) hgs, H1.cell (p := ⟨gs, _, none⟩) hgs]
    clear g4 g5 C4 E1 E2 E3 E4 H1 c3 c22
    go_wp2_with fail
    go_roundw
    case rel => exact ⟨k + 1, r.tg, At, ct, leastT t tl, rfl, by go_num, by omega, hNt, htl, HF3, F3, F4, G1, G2, HB5⟩
    case measure => simp [intOf]; omega
structure Xc where
 tmo : Int
 vc : Bool
 ed : Bool
 q : Qn
 tr : List Adr
 k : Nat
 lg : Nat
 left : Int
 sent : Nat
 y : Qy
 d : Dl
 hard : Bool
 done : Bool
 vd : Int
 msg : Msg
abbrev XR := Xc × Lt × List Ou
def Xc.ednsB (x : Xc) : Bool := decide (x.lg = 0) && x.ed
def legY (x : Xc) (L : Lt) : Qy := ⟨x.tr.getD x.k Adr.zero, 1024 + (drawL L 64512).1, (drawL (drawL L 64512).2 65536).1, x.q⟩
def legL (L : Lt) : Lt := (drawL (drawL L 64512).2 65536).2
def legX (x : Xc) (L : Lt) (lg : Nat) : XR :=
 if lg = 2 then ({ x with y := legY x L, lg := 2, left := x.tmo, sent := x.sent + 1, d := (newD (legY x L)).1 }, legL L, (newD (legY x L)).2)
 else ({ x with y := legY x L, lg := lg, left := x.tmo, sent := x.sent + 1 }, legL L, [⟨1, (legY x L).sv, (legY x L).port, (encM (askM x.q (legY x L).id (decide (lg = 0) && x.ed)) false).1⟩])
def tryX (x : Xc) (L : Lt) : XR := if x.k < x.tr.length then legX x L (if x.vc then 2 else 0) else ({ x with done := true, vd := if x.hard then 5 else 4, msg := Msg.zero }, L, [])
def startX (tmo : Int) (vc ed : Bool) (q : Qn) (tr : List Adr) : Xc := ⟨tmo, vc, ed, q, tr, 0, 0, 0, 0, ⟨Adr.zero, 0, 0, ⟨[], 0, 0⟩⟩, ⟨⟨Adr.zero, 0, 0, ⟨[], 0, 0⟩⟩, [], 2, false, [], Msg.zero⟩, false, false, 0, Msg.zero⟩
def newX (tmo : Int) (vc ed : Bool) (q : Qn) (tr : List Adr) (L : Lt) : XR :=
 if (encM (askM q 0 ed) false).2 ≠ 0 then ({ startX tmo vc ed q tr with done := true, vd := 3 }, L, []) else tryX (startX tmo vc ed q tr) L
structure Xc.st (x : Xc) : Prop where
 ips : ∀ a ∈ x.tr, a.ip.length = 16
 to1 : 1 ≤ x.tmo
 to2 : x.tmo ≤ 30
 trl : x.tr.length ≤ 1000
 err : ∀ id e, 0 ≤ id → id ≤ 65535 → (encM (askM x.q id e) false).2 = 0
structure Xc.ok (x : Xc) : Prop where
 st : x.done = false → x.st
 go : x.done = false → x.k < x.tr.length ∧ 1 ≤ x.left ∧ x.left ≤ x.tmo ∧ x.y.q = x.q ∧ x.y.sv = x.tr.getD x.k Adr.zero ∧ (x.lg = 2 → x.d.st = 0 ∧ x.d.y = x.y ∧ x.d.ok)
def ptrV (D : Option Nat) : Value := .pointer (D.map fun g => ⟨g, 0, none⟩)
def xcC (T : List Value) (vn : Value) (q : Qn) (vt : Value) (gl : Nat) (k : Nat) (hs : Value) (qs : List Value) (eb : Bool) (dp : Option Nat) (left : Int) (sent : Nat) (hard done : Bool) (vd : Int) (ds : List Value) : List Value :=
 T ++ (qC vn q ++ (vt :: .pointer (some ⟨gl, 0, none⟩) :: .int .i64 k :: hs :: (qs ++ (.bool eb :: ptrV dp :: .int .i64 left :: .int .i64 sent :: .bool hard :: .bool done :: .int .i64 vd :: ds))))
section
variable {T qs ds : List Value} {vn vt hs : Value} {q : Qn} {gl k : Nat} {eb hard done : Bool} {dp : Option Nat} {left vd : Int} {sent : Nat}
theorem xc_told (hT : T.length = 10) (hq : qs.length = 23) (i : Nat) (hi : i < 10) : (xcC T vn q vt gl k hs qs eb dp left sent hard done vd ds)[i]? = T[i]? := by
 unfold xcC; rw [List.getElem?_append_left (by omega)]
theorem xc_q (hT : T.length = 10) (hq : qs.length = 23) : ((xcC T vn q vt gl k hs qs eb dp left sent hard done vd ds).drop 10).take 3 = qC vn q := by
 unfold xcC; rw [show (10 : Nat) = T.length by omega, List.drop_left]; exact List.take_left' rfl
theorem xc_mid (hT : T.length = 10) (hq : qs.length = 23) (i : Nat) (hi : i < 4) : (xcC T vn q vt gl k hs qs eb dp left sent hard done vd ds)[13 + i]? = [vt, .pointer (some ⟨gl, 0, none⟩), .int .i64 k, hs][i]? := by
 unfold xcC
 rw [List.getElem?_append_right (by omega), hT, List.getElem?_append_right (by simp [qC]; omega), show 13 + i - 10 - (qC vn q).length = i by simp [qC]; omega]
 match i, hi with
 | 0, _ => rfl
 | 1, _ => rfl
 | 2, _ => rfl
 | 3, _ => rfl
theorem xc_drop17 (hT : T.length = 10) (hq : qs.length = 23) : (xcC T vn q vt gl k hs qs eb dp left sent hard done vd ds).drop 17 = qs ++ (.bool eb :: ptrV dp :: .int .i64 left :: .int .i64 sent :: .bool hard :: .bool done :: .int .i64 vd :: ds) := by
 unfold xcC
 rw [show (17 : Nat) = T.length + 7 by omega, List.drop_append]
 rw [List.drop_of_length_le (by omega), List.nil_append]
 simp [qC]
theorem xc_y (hT : T.length = 10) (hq : qs.length = 23) : ((xcC T vn q vt gl k hs qs eb dp left sent hard done vd ds).drop 17).take 23 = qs := by
 rw [xc_drop17 hT hq]; exact List.take_left' hq
theorem xc_end (hT : T.length = 10) (hq : qs.length = 23) (i : Nat) (hi : i < 7) : (xcC T vn q vt gl k hs qs eb dp left sent hard done vd ds)[40 + i]? = [Value.bool eb, ptrV dp, .int .i64 left, .int .i64 sent, .bool hard, .bool done, .int .i64 vd][i]? := by
 have e : (xcC T vn q vt gl k hs qs eb dp left sent hard done vd ds)[40 + i]? = ((xcC T vn q vt gl k hs qs eb dp left sent hard done vd ds).drop 17)[23 + i]? := by rw [List.getElem?_drop]; congr 1; omega
 rw [e, xc_drop17 hT hq, List.getElem?_append_right (by omega), hq, Nat.add_sub_cancel_left]
 match i, hi with
 | 0, _ => rfl
 | 1, _ => rfl
 | 2, _ => rfl
 | 3, _ => rfl
 | 4, _ => rfl
 | 5, _ => rfl
 | 6, _ => rfl
theorem xc_out (hT : T.length = 10) (hq : qs.length = 23) : ((xcC T vn q vt gl k hs qs eb dp left sent hard done vd ds).drop 46).take 15 = .int .i64 vd :: ds.take 14 := by
 have e : (xcC T vn q vt gl k hs qs eb dp left sent hard done vd ds).drop 46 = .int .i64 vd :: ds := by
  rw [show (46 : Nat) = 17 + 29 from rfl, ← List.drop_drop, xc_drop17 hT hq, show (29 : Nat) = qs.length + 6 by omega, List.drop_append]
  simp
 rw [e]; rfl
theorem xc_len (hT : T.length = 10) (hq : qs.length = 23) : (xcC T vn q vt gl k hs qs eb dp left sent hard done vd ds).length = 47 + ds.length := by
 simp [xcC, hT, hq, qC]; omega
theorem xc_seths (hT : T.length = 10) (hq : qs.length = 23) (h' : Value) : (xcC T vn q vt gl k hs qs eb dp left sent hard done vd ds).set 16 h' = xcC T vn q vt gl k h' qs eb dp left sent hard done vd ds := by
 simp [xcC, List.set_append, hT, hq, qC]
theorem xc_seteb (hT : T.length = 10) (hq : qs.length = 23) (b : Bool) : (xcC T vn q vt gl k hs qs eb dp left sent hard done vd ds).set 40 (.bool b) = xcC T vn q vt gl k hs qs b dp left sent hard done vd ds := by
 simp [xcC, List.set_append, hT, hq, qC]
theorem xc_setdp (hT : T.length = 10) (hq : qs.length = 23) (d : Option Nat) : (xcC T vn q vt gl k hs qs eb dp left sent hard done vd ds).set 41 (ptrV d) = xcC T vn q vt gl k hs qs eb d left sent hard done vd ds := by
 simp [xcC, List.set_append, hT, hq, qC]
theorem xc_setleft (hT : T.length = 10) (hq : qs.length = 23) (n : Int) : (xcC T vn q vt gl k hs qs eb dp left sent hard done vd ds).set 42 (.int .i64 n) = xcC T vn q vt gl k hs qs eb dp n sent hard done vd ds := by
 simp [xcC, List.set_append, hT, hq, qC]
theorem xc_setsent (hT : T.length = 10) (hq : qs.length = 23) (n : Nat) : (xcC T vn q vt gl k hs qs eb dp left sent hard done vd ds).set 43 (.int .i64 n) = xcC T vn q vt gl k hs qs eb dp left n hard done vd ds := by
 simp [xcC, List.set_append, hT, hq, qC]
theorem xc_setdone (hT : T.length = 10) (hq : qs.length = 23) (b : Bool) : (xcC T vn q vt gl k hs qs eb dp left sent hard done vd ds).set 45 (.bool b) = xcC T vn q vt gl k hs qs eb dp left sent hard b vd ds := by
 simp [xcC, List.set_append, hT, hq, qC]
theorem xc_take17 (hT : T.length = 10) (hq : qs.length = 23) : (xcC T vn q vt gl k hs qs eb dp left sent hard done vd ds).take 17 = T ++ (qC vn q ++ [vt, .pointer (some ⟨gl, 0, none⟩), .int .i64 k, hs]) := by
 unfold xcC
 rw [show (17 : Nat) = T.length + 7 by omega, List.take_append, List.take_of_length_le (by omega)]
 simp [qC]
theorem xc_puty (hT : T.length = 10) (hq : qs.length = 23) (qs' : List Value) (hq' : qs'.length = 23) : (xcC T vn q vt gl k hs qs eb dp left sent hard done vd ds).take 17 ++ qs' ++ (xcC T vn q vt gl k hs qs eb dp left sent hard done vd ds).drop (17 + qs'.length) = xcC T vn q vt gl k hs qs' eb dp left sent hard done vd ds := by
 rw [xc_take17 hT hq, hq', ← List.drop_drop, xc_drop17 hT hq, List.drop_left' hq]
 simp [xcC]
theorem xc_putout (hT : T.length = 10) (hq : qs.length = 23) (vd' : Int) (ds' : List Value) (hd : ds.length = 14) (hd' : ds'.length = 14) : (xcC T vn q vt gl k hs qs eb dp left sent hard done vd ds).take 46 ++ (.int .i64 vd' :: ds') ++ (xcC T vn q vt gl k hs qs eb dp left sent hard done vd ds).drop (46 + (.int .i64 vd' :: ds' : List Value).length) = xcC T vn q vt gl k hs qs eb dp left sent hard done vd' ds' := by
 rw [List.drop_of_length_le (by rw [xc_len hT hq]; simp; omega), List.append_nil]
 have e : (xcC T vn q vt gl k hs qs eb dp left sent hard done vd ds).take 46 = T ++ (qC vn q ++ [vt, .pointer (some ⟨gl, 0, none⟩), .int .i64 k, hs]) ++ (qs ++ [.bool eb, ptrV dp, .int .i64 left, .int .i64 sent, .bool hard, .bool done]) := by
  rw [show (46 : Nat) = 17 + 29 from rfl, List.take_add, xc_take17 hT hq, xc_drop17 hT hq, show (29 : Nat) = qs.length + 6 by omega, List.take_append, List.take_of_length_le (show qs.length ≤ qs.length + 6 by omega)]
  simp
 rw [e]
 simp [xcC]
end
structure XchgB (w : World) (g gl : Nat) (vn : Value) (x : Xc) (hs : Value) (eb : Bool) (qs : List Value) (dp : Option Nat) : Prop where
 b : ∃ T vt ds, Blk w g 331 (xcC T vn x.q vt gl x.k hs qs eb dp x.left x.sent x.hard x.done x.vd ds) ∧ T.length = 10 ∧ T[4]? = some (.int .i64 x.tmo) ∧ T[7]? = some (.bool x.vc) ∧ T[9]? = some (.bool x.ed) ∧ TrysO w 0 vt x.tr ∧ MsgOwn w ds x.msg
 nm : NmL w vn x.q.name
 ql : qs.length = 23
theorem Fr.stays {S : Nat → Prop} {w w' : World} (h : Fr S w w') : Stays w w' := fun v n x => h.own x (by unfold StTy; decide)
theorem Fr.lown {α : Type} {S : Nat → Prop} {w w' : World} {B : Nat} {e : TypeId} {k : Nat} {R : List Value → α → Prop} {v : Value} {l : List α} (h : Fr S w w') (ho : LOwn w B e k R v l) (he : ¬ StTy e) : LOwn w' B e k R v l := ho.stays (fun _ x => h.own x he) (fun _ _ x => x)
theorem Fr.msg {S : Nat → Prop} {w w' : World} {cs : List Value} {m : Msg} (h : Fr S w w') (hm : MsgOwn w cs m) : MsgOwn w' cs m := by
 obtain ⟨vq, va, vu, ve, h1, h2, h3, h4, h5, l⟩ := hm
 have hq : ¬ StTy 218 := by unfold StTy; decide
 have hr : ¬ StTy 96 := by unfold StTy; decide
 exact ⟨vq, va, vu, ve, h1, h2.stays (fun _ x => h.own x hq) (fun _ _ x => x.stays h.stays), h3.stays (fun _ x => h.own x hr) (fun _ _ x => x.stays h.stays), h4.stays (fun _ x => h.own x hr) (fun _ _ x => x.stays h.stays), h5.stays (fun _ x => h.own x hr) (fun _ _ x => x.stays h.stays), l⟩
theorem XchgB.lt {w : World} {g gl : Nat} {vn : Value} {x : Xc} {hs : Value} {eb : Bool} {qs : List Value} {dp : Option Nat} (h : XchgB w g gl vn x hs eb qs dp) : g < w.heap.size := by obtain ⟨T, vt, ds, hb, _⟩ := h.b; exact hb.lt
theorem XchgB.fr {S : Nat → Prop} {w w' : World} {g gl : Nat} {vn : Value} {x : Xc} {hs : Value} {eb : Bool} {qs : List Value} {dp : Option Nat} (h : XchgB w g gl vn x hs eb qs dp) (k : Fr S w w') (hg : ¬ S g) : XchgB w' g gl vn x hs eb qs dp := by
 obtain ⟨T, vt, ds, hb, h1, h2, h3, h4, h5, h6⟩ := h.b
 exact ⟨⟨T, vt, ds, k.blk hb hg, h1, h2, h3, h4, k.lown h5 (by unfold StTy; decide), k.msg h6⟩, h.nm.stays k.stays, h.ql⟩
theorem XchgB.below {w w' : World} {g gl : Nat} {vn : Value} {x : Xc} {hs : Value} {eb : Bool} {qs : List Value} {dp : Option Nat} (h : XchgB w g gl vn x hs eb qs dp) (k : Below w.heap.size w w') : XchgB w' g gl vn x hs eb qs dp := h.fr (S := fun _ => False) (Fr.below k) (fun h => h)
def begunL : List Ou → Nat
 | [] => 0
 | o :: l => (if o.kind = 1 ∨ o.kind = 2 then 1 else 0) + begunL l
def Xc.rest (x : Xc) : Nat := if x.done then 0 else (2 - x.lg) + 3 * (x.tr.length - x.k - 1)
def Xc.phi (x : Xc) : Nat := if x.done then 0 else x.left.toNat + x.tmo.toNat * x.rest
theorem rest_no {x : Xc} (h : x.done = false) : x.rest = (2 - x.lg) + 3 * (x.tr.length - x.k - 1) := by unfold Xc.rest; rw [h]; rfl
theorem phi_no {x : Xc} (h : x.done = false) : x.phi = x.left.toNat + x.tmo.toNat * x.rest := by unfold Xc.phi; rw [h]; rfl
theorem rest_dn {x : Xc} (h : x.done = true) : x.rest = 0 := by unfold Xc.rest; rw [h]; rfl
theorem phi_dn {x : Xc} (h : x.done = true) : x.phi = 0 := by unfold Xc.phi; rw [h]; rfl
structure EndX (x : Xc) (L : Lt) (r : XR) (t n h : Nat) : Prop where
 tr : r.1.tr = x.tr
 tmo : r.1.tmo = x.tmo
 q : r.1.q = x.q
 snt : r.1.sent = x.sent + begunL r.2.2
 rst : begunL r.2.2 + r.1.rest ≤ n
 phi : r.1.phi ≤ t
 lg : r.1.lg ≤ 2
 vd : r.1.done = true → r.1.vd ≠ 0
 us : r.2.1.us ≤ L.us + 2
 ds : r.2.1.ds = L.ds
 hd : r.1.d.heard.length ≤ h
theorem EndX.mono {x : Xc} {L : Lt} {r : XR} {t n h t' n' h' : Nat} (e : EndX x L r t n h) (ht : t ≤ t') (hn : n ≤ n') (hh : h ≤ h') : EndX x L r t' n' h' :=
 ⟨e.tr, e.tmo, e.q, e.snt, Nat.le_trans e.rst hn, Nat.le_trans e.phi ht, e.lg, e.vd, e.us, e.ds, Nat.le_trans e.hd hh⟩
theorem errP_leg {x : Xc} (h : x.st) (L : Lt) : errP (legY x L) = 0 := by
 obtain ⟨h1, h2⟩ := draw_lt (drawL L 64512).2 (show (0 : Int) < 65536 by decide)
 exact h.err (drawL (drawL L 64512).2 65536).1 false h1 (by omega)
theorem legX_f (x : Xc) (L : Lt) (lg : Nat) : (legX x L lg).1.done = x.done ∧ (legX x L lg).1.tr = x.tr ∧ (legX x L lg).1.k = x.k ∧ (legX x L lg).1.tmo = x.tmo ∧ (legX x L lg).1.left = x.tmo ∧ (legX x L lg).1.lg = lg ∧ (legX x L lg).1.sent = x.sent + 1 ∧ (legX x L lg).1.q = x.q ∧ (legX x L lg).2.1 = legL L := by
 unfold legX
 split
 ·
  rename_i h; subst h; exact ⟨rfl, rfl, rfl, rfl, rfl, rfl, rfl, rfl, rfl⟩
 ·
  exact ⟨rfl, rfl, rfl, rfl, rfl, rfl, rfl, rfl, rfl⟩
theorem legX_end {x : Xc} (h : x.st) (hd : x.done = false) (L : Lt) (lg : Nat) (hlg : lg ≤ 2) : EndX x L (legX x L lg) (x.tmo.toNat * (1 + (2 - lg) + 3 * (x.tr.length - x.k - 1))) (1 + (2 - lg) + 3 * (x.tr.length - x.k - 1)) x.d.heard.length := by
 have e0 := errP_leg h L
 have eN : newD (legY x L) = (⟨legY x L, putB 2 (octP (legY x L)).length ++ octP (legY x L), 0, false, [], Msg.zero⟩, [⟨2, (legY x L).sv, (legY x L).port, []⟩]) := by unfold newD; rw [if_pos e0]
 have hm : x.tmo.toNat * (1 + (2 - lg) + 3 * (x.tr.length - x.k - 1)) = x.tmo.toNat + x.tmo.toNat * ((2 - lg) + 3 * (x.tr.length - x.k - 1)) := by
  rw [Nat.add_assoc, Nat.mul_add, Nat.mul_one]
 have hb : begunL (legX x L lg).2.2 = 1 := by
  unfold legX
  split
  ·
   rw [eN]; rfl
  ·
   rfl
 have hh : (legX x L lg).1.d.heard.length ≤ x.d.heard.length := by
  unfold legX
  split
  ·
   rw [eN]; exact Nat.zero_le _
  ·
   exact Nat.le_refl _
 obtain ⟨f1, f2, f3, f4, f5, f6, f7, f8, f9⟩ := legX_f x L lg
 have hdn := f1.trans hd
 refine ⟨f2, f4, f8, by rw [f7, hb], ?_, ?_, by rw [f6]; exact hlg, fun hh => ?_, by rw [f9]; exact Nat.le_refl _, by rw [f9]; rfl, hh⟩
 ·
  rw [hb, rest_no hdn, f2, f3, f6]; omega
 ·
  rw [phi_no hdn, rest_no hdn, f2, f3, f4, f5, f6, hm]; exact Nat.le_refl _
 ·
  rw [hdn] at hh; cases hh
theorem tryX_end {x : Xc} (h : x.st) (hd : x.done = false) (hlg : x.lg ≤ 2) (L : Lt) : EndX x L (tryX x L) (x.tmo.toNat * (3 * (x.tr.length - x.k))) (3 * (x.tr.length - x.k)) x.d.heard.length := by
 unfold tryX
 split
 ·
  rename_i hk
  refine (legX_end h hd L _ (by split <;> omega)).mono (Nat.mul_le_mul_left _ ?_) ?_ (Nat.le_refl _)
  ·
   split <;> omega
  ·
   split <;> omega
 ·
  exact ⟨rfl, rfl, rfl, rfl, by rw [rest_dn rfl]; exact Nat.zero_le _, by rw [phi_dn rfl]; exact Nat.zero_le _, hlg, fun _ => by show (if x.hard then (5 : Int) else 4) ≠ 0; split <;> decide, Nat.le_add_right _ _, rfl, Nat.le_refl _⟩
theorem newX_end (tmo : Int) (vc ed : Bool) (q : Qn) (tr : List Adr) (L : Lt) (h : (encM (askM q 0 ed) false).2 = 0 → (startX tmo vc ed q tr).st) : EndX (startX tmo vc ed q tr) L (newX tmo vc ed q tr L) (tmo.toNat * (3 * tr.length)) (3 * tr.length) 0 := by
 unfold newX
 split
 ·
  exact ⟨rfl, rfl, rfl, rfl, by rw [rest_dn rfl]; exact Nat.zero_le _, by rw [phi_dn rfl]; exact Nat.zero_le _, Nat.zero_le _, fun _ => by show (3 : Int) ≠ 0; decide, Nat.le_add_right _ _, rfl, Nat.le_refl _⟩
 ·
  rename_i he
  exact tryX_end (h (Decidable.not_not.1 he)) rfl (Nat.zero_le _) L
theorem legX_len (x : Xc) (L : Lt) (lg : Nat) : (legX x L lg).2.2.length ≤ 1 := by
 unfold legX
 split
 ·
  exact newD_len _
 ·
  exact Nat.le_refl _
theorem tryX_len (x : Xc) (L : Lt) : (tryX x L).2.2.length ≤ 1 := by
 unfold tryX
 split
 ·
  exact legX_len _ _ _
 ·
  exact Nat.zero_le _
end Go.Proofs.YteimenplbanooaaGreatDoor
