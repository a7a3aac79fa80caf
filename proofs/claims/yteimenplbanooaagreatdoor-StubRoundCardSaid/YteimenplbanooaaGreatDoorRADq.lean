/-
  Layer 12 (packed): octets, New; tables as maps.
-/
import Derived.Test.YteimenplbanooaaGreatDoorGBq
import Derived.Maps.OwnSet
import Derived.Deep.CutBlock
namespace Go.Proofs.YteimenplbanooaaGreatDoor
open _root_.Go.Proofs.Tryz
open Go.RowKit
set_option maxRecDepth 100000
set_option linter.unusedVariables false
theorem run_str_own {w : World} {B : Nat} {v : Value} {q : List UInt8} (h : w.ownsRow B 5 1 v q.length (octs q)) : (convert 131 9 v).run prog w = .ok (.string (bs q)) w := by
 rcases h.2 with ⟨rfl, h0⟩ | ⟨g, cap, cur, rfl, _⟩
 ·
  have : q = [] := List.length_eq_zero_iff.1 h0
  subst this
  have : (convert 131 9 (.slice none 0 0)).run prog w = .ok (.string ⟨#[]⟩) w := by kernel_rfl
  exact this
 ·
  refine run_convert_bytes_back w 131 9 5 ⟨g, 0, none⟩ cap q underlying131 underlying5 underlying9 ?_
  intro j hj
  exact h.cells (g := g) rfl j _ (octs_get q j hj)
def begs (n : List (List UInt8)) (k : Nat) : List Nat := (List.range k).map fun j => lsum (n.take j)
theorem begs_succ (n : List (List UInt8)) (k : Nat) : begs n (k + 1) = begs n k ++ [lsum (n.take k)] := by simp [begs, List.range_succ]
def ints (l : List Nat) : List Value := l.map fun (x : Nat) => Value.int .i64 (x : Int)
theorem ints_app (a b : List Nat) : ints (a ++ b) = ints a ++ ints b := by simp [ints]
theorem intInfo : (prog.info? 3).map (fun i => (i.zero, i.size, i.bytes)) = some (some (.int .i64 0), 1, 8) := by kernel_rfl
theorem encN_take (n : List (List UInt8)) (k : Nat) (h : k < n.length) : encN (n.take (k + 1)) = encN (n.take k) ++ [UInt8.ofNat n[k].length] ++ n[k] := by
 rw [List.take_succ_eq_append_getElem h, encN_app]; simp [encN, encL]
def OctsRet (n : List (List UInt8)) (w : World) (e : Ending) (w' : World) : Prop :=
 ∃ v, e = .returned (.tuple #[.string (bs (encN n)), v]) ∧ w'.ownsRow w.heap.size 3 1 v n.length (ints (begs n n.length)) ∧ Below w.heap.size w w'
set_option maxHeartbeats 2000000 in
theorem octets_any (A : Option Addr) (c : Nat) (n : List (List UInt8)) (w : World) (hA : TxtR w A n) (hg : GoodN n) (hs : lsum n ≤ 254) :
  Calls prog 349 #[.slice A n.length c] w (OctsRet n w) := by
 have hnl : n.length ≤ 254 := Nat.le_trans (lsum_ge n) hs
 obtain ⟨i0, hi0, hz0, hz1, hz2⟩ := info_parts intInfo
 go_enter func349, ntmps349
 go_wp2_with (at_make; go_must (refine wpList_make_own _ rfl (.const (.int .i64 0)) (.tmp 9) 59 rfl w.heap.size 3 i0 (.int .i64 0) 1 underlying59 hi0 hz0 hz1 .i64 .i64 _ n.length rfl rfl rfl (by rw [hz2]; omega) (by simp only [maxLen]; omega) (Nat.le_refl _) ?_))
 intro w1 hown1 hgrow1
 have hB1 : Below w.heap.size w w1 := (Below.refl _ w).grown hgrow1 (Nat.le_refl _) (by intro k hk; cases hk)
 clear hgrow1
 go_wp2_with fail
 go_loopw [4, 5, 13] (fun b bg i wr => ∃ k : Nat, k ≤ n.length ∧ i = .int .i64 k ∧ wr.ownsRow w.heap.size 5 1 b (encN (n.take k)).length (octs (encN (n.take k))) ∧ wr.ownsRow w.heap.size 3 1 bg k (ints (begs n k)) ∧ Below w.heap.size w wr) (fun _ _ i _ => n.length - (intOf i).toNat)
 case atStart => exact ⟨0, Nat.zero_le _, rfl, World.ownsRow_nil _ _ _ _, hown1, hB1⟩
 case round =>
  clear hown1 hB1
  clear w1
  obtain ⟨k, hk, rfl, hb, hbg, hB⟩ := hrel
  obtain ⟨Ab, cb, hv⟩ := own_form hb
  obtain ⟨Ag, cg, hv2⟩ := own_form hbg
  rw [encN_length] at hb hv
  have hle := lsum_take_le n k
  by_cases hlt : k < n.length
  ·
   have hlt' : (k : Int) < n.length := by omega
   obtain ⟨ba, oa, rfl, hba, xa⟩ := hA (by omega)
   have c1 := (hB.cell hba).trans (xa k hlt)
   have XK := Hh (xa k hlt)
   have ET := Hh (encN_take n k hlt)
   have hle2 := lsum_take_le n (k + 1)
   rw [lsum_take n k hlt] at hle2
   have hl63 := (hg n[k] (List.getElem_mem hlt)).2
   clear xa
   rw [hv, hv2]
   rw [hv] at hb
   rw [hv2] at hbg
   clear hv hv2
   go_wp2_with (at_builtin; go_must (refine wpList_appB _ rfl (.tmp 17) (.tmp 20) 59 rfl 3 (.int .i64 0) 1 8 underlying59 intInfo rfl (by decide) w.heap.size _ k _ rfl (World.ownsRow.alloc hbg _) (by have := hB.size; simp; omega) ⟨wr.heap.size, 0, none⟩ 1 1 [.int .i64 (lsum (n.take k))] rfl rfl (new_one _ _ _ _ rfl) (one_cell1 rfl) (by decide) (by simp only [maxLen]; omega) (by omega) ?_))
   intro g2 cap2 w2 hbg2 hgr2 hlt2
   have hb2 := own_own (hb.alloc _) (hbg.alloc _) (by decide) hgr2
   have hB2 := below_own (hB.alloc hB.size _) (by have := hB.size; simp; omega) (hbg.alloc _) hgr2
   have hbg2' : w2.ownsRow w.heap.size 3 1 (.slice (some ⟨g2, 0, none⟩) (k + 1) cap2) (k + 1) (ints (begs n (k + 1))) := by rw [begs_succ, ints_app]; exact hbg2
   clear hb hbg hbg2 hgr2 hB c1
   go_wp2_with (at_builtin; go_must (refine wpList_appB _ rfl (.tmp 22) (.tmp 26) 131 rfl 5 (.int .u8 0) 1 1 underlying131 byteInfo rfl (by decide) w.heap.size _ (lsum (n.take k)) _ rfl (World.ownsRow.alloc hb2 _) (by have := hB2.size; simp; omega) ⟨w2.heap.size, 0, none⟩ 1 1 [.int .u8 (n[k].length : Int)] rfl rfl (new_one _ _ _ _ rfl) (one_cell1 rfl) (by decide) (by simp only [maxLen]; omega) (by omega) ?_))
   intro g3 cap3 w3 hb3 hgr3 hlt3
   have hbg3 := own_own (hbg2'.alloc _) (hb2.alloc _) (by decide) hgr3
   have hB3 := below_own (hB2.alloc hB2.size _) (by have := hB2.size; simp; omega) (hb2.alloc _) hgr3
   obtain ⟨q, hq⟩ : ∃ q, q = encN (n.take k) ++ [UInt8.ofNat n[k].length] := ⟨_, rfl⟩
   have hql : q.length = lsum (n.take k) + 1 := by rw [hq, List.length_append, encN_length]; rfl
   have hb3' : w3.ownsRow w.heap.size 5 1 (.slice (some ⟨g3, 0, none⟩) (lsum (n.take k) + 1) cap3) q.length (octs q) := by
    rw [hql, hq, octs_app]
    have : octs [UInt8.ofNat n[k].length] = [.int .u8 (n[k].length : Int)] := by simp [octs]; omega
    rw [this]; exact hb3
   have HQ := Hh hq
   have hql2 : q.length + n[k].length ≤ 1000 := by omega
   have HQL := Hh hql
   clear hb2 hbg2' hB2 hgr3 hb3 hq hql
   go_wp2_with (at_builtin; go_must (refine wpList_appS _ rfl (.tmp 28) (.tmp 29) rfl w.heap.size _ q n[k] rfl hb3' hB3.size rfl (by omega) ?_))
   intro A4 c4 w4 hb4 hgr4
   have hbg4 := own_own hbg3 hb3' (by decide) hgr4
   have hB4 := below_own hB3 hB3.size hb3' hgr4
   have hE : q ++ n[k] = encN (n.take (k + 1)) := by rw [ET.out, HQ.out]
   rw [hE] at hb4
   have HE := Hh (show (encN (n.take (k + 1))).length = q.length + n[k].length by rw [← hE, List.length_append])
   clear hE hb3' hbg3 hB3 hgr4
   go_wp2_with fail
   go_roundw
   case rel => exact ⟨k + 1, by omega, by go_num, by rw [HE.out]; exact hb4, hbg4, hB4⟩
   case measure => simp [intOf]; omega
  ·
   have hlt' : ¬ (k : Int) < n.length := by omega
   obtain rfl : k = n.length := by omega
   have ht : n.take n.length = n := List.take_of_length_le (Nat.le_refl _)
   rw [ht] at hb hv
   rw [hv, hv2]
   rw [hv] at hb
   rw [hv2] at hbg
   rw [← encN_length] at hb
   have hcv := run_str_own hb
   rw [encN_length] at hcv
   clear hv hv2 ht hb
   go_wp2_with fail
   go_ret2
   exact ⟨_, rfl, hbg, hB⟩
open Go.RowKit Go.Maps
theorem strKeyed : Keyed prog 9 := string_keyed underlying9
theorem zeroInt (w : World) : (zeroValue 3).run prog w = .ok (.int .i64 0) w := by kernel_rfl
def MapOf (w : World) (b n : Nat) (f : List UInt8 → Option Nat) : Prop :=
 ∃ D : DataW Unit, w.ownsMap prog 9 (plainElem prog 3) b n D ∧ ∀ k, match f k with
  | none => Maps.has D (.string k) = false
  | some x => Maps.has D (.string k) = true ∧ ∀ z, D.atKey (.string k) z = .lit (.int .i64 (x : Int))
theorem keyStr (k : List UInt8) (hk : k.length ≤ maxLen) : keyOf prog 9 (.string (bs k)) = some (Lit.string k) := by
 have := WideMaps.keyOf_string_mk underlying9 (s := bs k) (by rw [bs_size]; exact hk)
 rwa [bs_data] at this
theorem MapOf.made (w : World) : MapOf (w.alloc (.map #[] 0)) w.heap.size 0 (fun _ => none) := ⟨.map [], World.ownsMap_made _ _ _ _, fun k => rfl⟩
theorem MapOf.look {w : World} {b n : Nat} {f : List UInt8 → Option Nat} (h : MapOf w b n f) (k : List UInt8) (hk : k.length ≤ maxLen) :
  (Instr.lookup 423 (.map (some b)) (.string (bs k)) true).run prog w = .ok (.tuple #[.int .i64 ((f k).getD 0 : Nat), .bool (f k).isSome]) w := by
 obtain ⟨D, ho, hf⟩ := h
 obtain ⟨v, ps, hrun, hv⟩ := ho.look_ok strKeyed underlying423 (zeroInt w) (plainElem_int underlying3 (a := 0) (by decide)) (keyStr k hk)
 obtain ⟨a, rfl, ha, _⟩ := plainElem_int_inv underlying3 hv
 have hfk := hf k
 rw [hrun]
 cases hk : f k with
 | none =>
  rw [hk] at hfk
  simp only at hfk
  rw [Maps.atKey_of_not_has hfk] at ha
  have : a = 0 := by simpa using (congrArg Prod.fst ha).symm
  subst this
  rw [hfk]; rfl
 | some x =>
  rw [hk] at hfk
  simp only at hfk
  rw [hfk.2] at ha
  have : a = (x : Int) := by simpa using (congrArg Prod.fst ha).symm
  subst this
  rw [hfk.1]; rfl
theorem MapOf.store {w : World} {b n : Nat} {f : List UInt8 → Option Nat} (h : MapOf w b n f) (k : List UInt8) (hk : k.length ≤ maxLen) (x : Nat) (hx : x < 16384) (hn : n < maxLen) :
  ∃ w', (Instr.mapUpdate 423 (.map (some b)) (.string (bs k)) (.int .i64 (x : Int))).run prog w = .ok () w' ∧ MapOf w' b (n + 1) (fun j => if j = k then some x else f j) ∧ w.grownBy w' (some b) := by
 obtain ⟨D, ho, hf⟩ := h
 obtain ⟨w', hrun, ho', hg⟩ := ho.update strKeyed underlying423 hn (keyStr k hk) (plainElem_int underlying3 (a := (x : Int)) (WalkArith.wf_i64 (by omega)))
 refine ⟨w', hrun, ⟨_, ho', fun j => ?_⟩, hg⟩
 by_cases hj : j = k
 ·
  subst hj
  simp only [if_true]
  exact ⟨Maps.has_put_same ho.isMap (show WideAt.IsKeyLit (Lit.string j) from trivial) _, fun z => Maps.atKey_put_same ho.isMap (show WideAt.IsKeyLit (Lit.string j) from trivial) _ _⟩
 ·
  simp only [if_neg hj]
  have hne : Lit.string j ≠ Lit.string k := fun e => hj (by injection e)
  have := hf j
  cases hfj : f j with
  | none =>
   rw [hfj] at this
   simp only at this ⊢
   rw [Maps.has_put_other hne]; exact this
  | some y =>
   rw [hfj] at this
   simp only at this ⊢
   exact ⟨by rw [Maps.has_put_other hne]; exact this.1, fun z => by rw [Maps.atKey_put_other hne]; exact this.2 z⟩
theorem MapOf.kept {w w' : World} {b n : Nat} {f : List UInt8 → Option Nat} {row : Option Nat} (h : MapOf w b n f) (hg : w.grownBy w' row) (hne : some b ≠ row) : MapOf w' b n f := by
 obtain ⟨D, ho, hf⟩ := h
 exact ⟨D, ho.kept hg hne, hf⟩
theorem MapOf.lt {w : World} {b n : Nat} {f : List UInt8 → Option Nat} (h : MapOf w b n f) : b < w.heap.size := by
 obtain ⟨D, ho, hf⟩ := h
 exact ho.lt
theorem MapOf.ne_blk {w : World} {b n g : Nat} {f : List UInt8 → Option Nat} {t : TypeId} {cs : List Value} (h : MapOf w b n f) (hb : Blk w g t cs) : b ≠ g := by
 rintro rfl
 obtain ⟨D, ⟨es, cl, hm, _⟩, _⟩ := h
 unfold Blk at hb
 rw [hb] at hm; cases hm
def TabAt (w : World) (g b : Nat) (T : List (List (List UInt8) × Nat)) : Prop :=
 Blk w g 425 [.map (some b)] ∧ (∃ f, MapOf w b T.length f ∧ ∀ n, GoodN n → f (encN n) = look T n) ∧ ∀ r ∈ T, r.2 < 16384
def NewRet (w : World) (e : Ending) (w' : World) : Prop := ∃ g b, e = .returned (.pointer (some ⟨g, 0, none⟩)) ∧ TabAt w' g b [] ∧ Below w.heap.size w w' ∧ w.heap.size ≤ g ∧ w.heap.size ≤ b
theorem pnew_any (w : World) : Calls prog 296 #[] w (NewRet w) := by
 have hmm := @run_makeMap prog
 go_enter func296, ntmps296
 go_wp2
 go_ret
 refine ⟨_, w.heap.size, rfl, ⟨Blk.new' _ _ [.map (some w.heap.size)] _ (by simp), ⟨fun _ => none, (MapOf.made w).kept (World.grownBy_alloc _ _ none) (by simp), fun n _ => rfl⟩, by simp⟩, ((Below.refl _ _).alloc (Nat.le_refl _) _).alloc (by simp) _, by simp, Nat.le_refl _⟩
def rowsK (at_ : Int) (p : Nat) (n : List (List UInt8)) (k : Nat) : List (List (List UInt8) × Nat) :=
 (List.range k).flatMap fun j => if low at_ (p + lsum (n.take j)) then [(n.drop j, (at_ + (p + lsum (n.take j) : Nat)).toNat)] else []
theorem rowsK_succ (at_ : Int) (p : Nat) (n : List (List UInt8)) (k : Nat) : rowsK at_ p n (k + 1) = rowsK at_ p n k ++ (if low at_ (p + lsum (n.take k)) then [(n.drop k, (at_ + (p + lsum (n.take k) : Nat)).toNat)] else []) := by
 simp [rowsK, List.range_succ, List.flatMap_append]
theorem rowsK_none (at_ : Int) (p : Nat) (n : List (List UInt8)) (k : Nat) (h : at_ < 0 ∨ 16384 ≤ at_) : rowsK at_ p n k = [] := by
 have hl : ∀ q, low at_ q = false := by
  intro q
  cases hq : low at_ q with
  | false => rfl
  | true => have := (low_iff at_ q).1 hq; omega
 induction k with
 | zero => rfl
 | succ k ih => rw [rowsK_succ, ih, hl]; rfl
theorem rowsK_length (at_ : Int) (p : Nat) (n : List (List UInt8)) (k : Nat) : (rowsK at_ p n k).length ≤ k := by
 induction k with
 | zero => exact Nat.le_refl _
 | succ k ih =>
  rw [rowsK_succ, List.length_append]
  split
  ·
   simp; omega
  ·
   simp; omega
theorem rowsK_mem {at_ : Int} {p : Nat} {n : List (List UInt8)} {k : Nat} {r : List (List UInt8) × Nat} (h : r ∈ rowsK at_ p n k) : ∃ j, j < k ∧ r.1 = n.drop j ∧ r.2 < 16384 := by
 induction k with
 | zero => cases h
 | succ k ih =>
  rw [rowsK_succ] at h
  rcases List.mem_append.1 h with h | h
  ·
   obtain ⟨j, hj, h1, h2⟩ := ih h
   exact ⟨j, by omega, h1, h2⟩
  ·
   by_cases hc : low at_ (p + lsum (n.take k)) = true
   ·
    rw [if_pos hc, List.mem_singleton] at h
    have hl := (low_iff _ _).1 hc
    refine ⟨k, by omega, by rw [h], ?_⟩
    rw [h]
    simp only
    omega
   ·
    rw [if_neg hc] at h; cases h
theorem pgo_steps (T : List (List (List UInt8) × Nat)) (at_ : Int) (pre : List UInt8) (n : List (List UInt8)) : ∀ k, k ≤ n.length → (∀ j, j < k → look T (n.drop j) = none) →
  pgo T at_ pre n = ((pgo T at_ (pre ++ encN (n.take k)) (n.drop k)).1, rowsK at_ pre.length n k ++ (pgo T at_ (pre ++ encN (n.take k)) (n.drop k)).2) := by
 intro k
 induction k with
 | zero => intro _ _; simp [rowsK]
 | succ k ih =>
  intro hk h
  rw [ih (by omega) (fun j hj => h j (by omega))]
  have hd : n.drop k = n[k] :: n.drop (k + 1) := List.drop_eq_getElem_cons (by omega)
  have hl := h k (by omega)
  rw [hd] at hl
  rw [hd, pgo_no hl]
  have e1 : pre ++ encN (n.take k) ++ encL n[k] = pre ++ encN (n.take (k + 1)) := by
   rw [List.take_succ_eq_append_getElem (by omega), encN_app, List.append_assoc]
   simp [encN]
  have e2 : (pre ++ encN (n.take k)).length = pre.length + lsum (n.take k) := by rw [List.length_append, encN_length]
  rw [e1, e2, rowsK_succ, hd, List.append_assoc]
theorem pgo_hit (T : List (List (List UInt8) × Nat)) (at_ : Int) (n : List (List UInt8)) (k q : Nat) (hk : k < n.length) (h : ∀ j, j < k → look T (n.drop j) = none) (hq : look T (n.drop k) = some q) :
  pgo T at_ [] n = (encN (n.take k) ++ putB 2 (49152 + q), rowsK at_ 0 n k) := by
 rw [pgo_steps T at_ [] n k (by omega) h]
 have hd : n.drop k = n[k] :: n.drop (k + 1) := List.drop_eq_getElem_cons hk
 rw [hd] at hq ⊢
 rw [pgo_some hq]
 simp
theorem pgo_miss (T : List (List (List UInt8) × Nat)) (at_ : Int) (n : List (List UInt8)) (h : ∀ j, j < n.length → look T (n.drop j) = none) :
  pgo T at_ [] n = (encN n ++ [0], rowsK at_ 0 n n.length) := by
 rw [pgo_steps T at_ [] n n.length (Nat.le_refl _) h]
 simp [pgo]
theorem look_snoc {T : List (List (List UInt8) × Nat)} {n : List (List UInt8)} {x : Nat} (h : look T n = none) (m : List (List UInt8)) : look (T ++ [(n, x)]) m = if m = n then some x else look T m := by
 by_cases hm : m = n
 ·
  subst hm
  rw [if_pos rfl]
  unfold look at h ⊢
  rw [List.find?_append]
  have : T.find? (fun r => r.1 == m) = none := by simpa using h
  rw [this]; simp
 ·
  rw [if_neg hm, look_app_none]
  intro r hr
  rw [List.mem_singleton] at hr
  subst hr
  exact fun e => hm e.symm
theorem look_rows {T : List (List (List UInt8) × Nat)} {at_ : Int} {n : List (List UInt8)} {k : Nat} (hk : k < n.length) (h : look T (n.drop k) = none) : look (T ++ rowsK at_ 0 n k) (n.drop k) = none := by
 rw [look_app_none]
 ·
  exact h
 ·
  intro r hr e
  obtain ⟨j, hj, h1, _⟩ := rowsK_mem hr
  have := congrArg List.length (h1.symm.trans e)
  simp at this
  omega
theorem encN_drop (n : List (List UInt8)) (k : Nat) : (encN n).drop (lsum (n.take k)) = encN (n.drop k) := by
 have e : encN n = encN (n.take k) ++ encN (n.drop k) := by rw [← encN_app, List.take_append_drop]
 rw [e, ← encN_length, List.drop_left]
theorem encN_take' (n : List (List UInt8)) (k : Nat) : (encN n).take (lsum (n.take k)) = encN (n.take k) := by
 have e : encN n = encN (n.take k) ++ encN (n.drop k) := by rw [← encN_app, List.take_append_drop]
 rw [e, ← encN_length, List.take_left]
def putS (T : List (List (List UInt8) × Nat)) (at_ : Int) (n : List (List UInt8)) : List UInt8 := if checkN n = 0 then (pgo T at_ [] n).1 else []
def putT (T : List (List (List UInt8) × Nat)) (at_ : Int) (n : List (List UInt8)) : List (List (List UInt8) × Nat) := if checkN n = 0 then T ++ (pgo T at_ [] n).2 else T
theorem put_bad (p : Option Addr) (A : Option Addr) (c : Nat) (n : List (List UInt8)) (at_ : Int) (w : World) (hA : TxtR w A n) (hm : n.length ≤ 281474976710656) (hc : checkN n ≠ 0) :
  Calls prog 340 #[.pointer p, .slice A n.length c, .int .i64 at_] w (Ret (.tuple #[.string (bs []), .int .i64 (checkN n)]) w) := by
 have C := dcheck_any A c n w hA hm
 generalize checkN n = e at *
 have hc' : (e != 0) = true := by simpa using hc
 go_enter func340, ntmps340
 go_wp2_with fail
 refine C.mono ?_
 rintro _ w1 ⟨rfl, rfl⟩
 go_wp2_with fail
 go_ret2
 exact Ret.mk rfl rfl
def encZ (n : List (List UInt8)) : List UInt8 := encN n ++ [0]
theorem put_nil (A : Option Addr) (c : Nat) (n : List (List UInt8)) (at_ : Int) (w : World) (hA : TxtR w A n) (hm : n.length ≤ 281474976710656) (hc : checkN n = 0) :
  Calls prog 340 #[.pointer none, .slice A n.length c, .int .i64 at_] w (RetB (.tuple #[.string (bs (encZ n)), .int .i64 0]) w) := by
 have C := dcheck_any A c n w hA hm
 obtain ⟨hg, hs⟩ := checkN_ok hc
 have hs' : lsum n ≤ 254 := by omega
 have O := octets_any A c n w hA hg hs'
 rw [hc] at C
 have hl : (encN n).length ≤ 254 := by rw [encN_length]; exact hs'
 clear hc hg
 unfold encZ
 go_enter func340, ntmps340
 go_wp2_with fail
 refine C.mono ?_
 rintro _ w1 ⟨rfl, rfl⟩
 go_wp2_with fail
 refine O.mono ?_
 rintro _ w1 ⟨v, rfl, ho, hB⟩
 generalize encN n = q at *
 go_wp2_with fail
 go_ret2
 exact RetB.mk rfl hB
def PutRet (g b : Nat) (s : List UInt8) (T : List (List (List UInt8) × Nat)) (w : World) (e : Ending) (w' : World) : Prop :=
 e = .returned (.tuple #[.string (bs s), .int .i64 0]) ∧ TabAt w' g b T ∧ w.grownBy w' (some b)
def PutMid (g b : Nat) (T : List (List (List UInt8) × Nat)) (n : List (List UInt8)) (at_ : Int) (w : World) (bg out : Value) (wx : World) : Prop :=
 ∃ (k c : Nat) (A : Option Addr), k ≤ n.length ∧ bg = .slice A k c ∧ out = .string (bs (pgo T at_ [] n).1) ∧ (pgo T at_ [] n).2 = rowsK at_ 0 n k ∧ (∀ j, j < k → look T (n.drop j) = none) ∧
  (∀ i, i < k → ∃ B, A = some ⟨B, 0, none⟩ ∧ w.heap.size ≤ B ∧ B < wx.heap.size ∧ wx.cell? ⟨B, i, none⟩ = some (.int .i64 (lsum (n.take i)))) ∧ TabAt wx g b T ∧ Below w.heap.size w wx
theorem TabAt.below {w w' : World} {g b : Nat} {T : List (List (List UInt8) × Nat)} (h : TabAt w g b T) (hb : Below w.heap.size w w') : TabAt w' g b T := by
 obtain ⟨h1, ⟨f, h2, h3⟩, h4⟩ := h
 exact ⟨h1.below hb h1.lt, ⟨f, h2.kept (grown_of_below hb none) (by simp), h3⟩, h4⟩
theorem putRet_mk {g b : Nat} {out s : List UInt8} {T T' : List (List (List UInt8) × Nat)} {w w' : World} (ho : out = s) (hT : T = T') (h : TabAt w' g b T) (hg : w.grownBy w' (some b)) : PutRet g b s T' w (.returned (.tuple #[.string (bs out), .int .i64 0])) w' := by
 subst ho hT; exact ⟨rfl, h, hg⟩
theorem putMid_mk {g b k c1 : Nat} {T : List (List (List UInt8) × Nat)} {n : List (List UInt8)} {at_ : Int} {w w1 wx : World} {A1 : Option Addr} {s : List UInt8} (hk : k ≤ n.length) (hp : pgo T at_ [] n = (s, rowsK at_ 0 n k))
  (HN : Hid (∀ j, j < k → look T (n.drop j) = none)) (ho : w1.ownsRow w.heap.size 3 1 (.slice A1 n.length c1) n.length (ints (begs n n.length))) (hT : TabAt w1 g b T) (hB : Below w.heap.size w w1) (hx : Below w1.heap.size w1 wx) :
  PutMid g b T n at_ w (.slice A1 k c1) (.string (bs s)) wx := by
 refine ⟨k, c1, A1, hk, rfl, by rw [hp], by rw [hp], HN.out, ?_, hT.below hx, below_then hB hB.size hx⟩
 intro i hi
 rcases ho.2 with ⟨_, h0⟩ | ⟨B, cap, cur, hv, hBb, hh, _⟩
 ·
  omega
 ·
  injection hv with h1 h2 h3
  subst h1 h3
  have hlt : B < w1.heap.size := (ho.lt B rfl).2
  refine ⟨B, rfl, hBb, Nat.lt_of_lt_of_le hlt hx.size, (hx.cell hlt).trans ?_⟩
  rw [ho.cellAt i (by omega)]
  simp [ints, begs, show i < n.length by omega]
theorem tab_row {wr w' : World} {g b x : Nat} {T : List (List (List UInt8) × Nat)} {n : List (List UInt8)} {f : List UInt8 → Option Nat} {key : List UInt8} (hTb : Blk wr g 425 [.map (some b)]) (hne : b ≠ g)
  (hM : MapOf w' b (T.length + 1) (fun k => if k = key then some x else f k)) (hf : ∀ m, GoodN m → f (encN m) = look T m) (hlow : ∀ r ∈ T, r.2 < 16384) (hkey : key = encN n) (hn : GoodN n) (hl : look T n = none) (hx : x < 16384) (hg : wr.drew.grownBy w' (some b)) :
  TabAt w' g b (T ++ [(n, x)]) := by
 refine ⟨(Blk.drew hTb).grown hg (fun e => hne (by injection e with e; exact e.symm)), ⟨_, by simpa using hM, fun m hm => ?_⟩, ?_⟩
 ·
  rw [look_snoc hl m]
  by_cases e : m = n
  ·
   subst e; rw [if_pos rfl, if_pos hkey.symm]
  ·
   rw [if_neg e, if_neg (fun h => e (encN_inj m n hm hn (h.trans hkey)))]
   exact hf m hm
 ·
  intro r hr
  rcases List.mem_append.1 hr with h | h
  ·
   exact hlow r h
  ·
   rw [List.mem_singleton] at h; rw [h]; exact hx
set_option maxHeartbeats 4000000 in
theorem put_tab (g b : Nat) (T : List (List (List UInt8) × Nat)) (A : Option Addr) (c : Nat) (n : List (List UInt8)) (at_ : Int) (w : World) (hT : TabAt w g b T) (hA : TxtR w A n) (hm : n.length ≤ 281474976710656) (hc : checkN n = 0) (hTl : T.length ≤ 1000000) :
  Calls prog 340 #[.pointer (some ⟨g, 0, none⟩), .slice A n.length c, .int .i64 at_] w (PutRet g b (pgo T at_ [] n).1 (T ++ (pgo T at_ [] n).2) w) := by
 have C := dcheck_any A c n w hA hm
 obtain ⟨hg, hs⟩ := checkN_ok hc
 have hs' : lsum n ≤ 254 := by omega
 have O := octets_any A c n w hA hg hs'
 rw [hc] at C
 have hl : (encN n).length ≤ 254 := by rw [encN_length]; exact hs'
 have hnl : n.length ≤ 254 := Nat.le_trans (lsum_ge n) hs'
 have GG := Hh (show GoodN n from hg)
 clear hc hg
 go_enter func340, ntmps340
 go_wp2_with fail
 refine C.mono ?_
 rintro _ w1 ⟨rfl, rfl⟩
 go_wp2_with fail
 refine O.mono ?_
 rintro _ w1 ⟨v, rfl, ho, hB⟩
 have hT1 := hT.below hB
 obtain ⟨A1, c1, hv⟩ := own_form ho
 rw [hv] at ho ⊢
 clear hv C O
 obtain ⟨q, hq⟩ : ∃ q, q = encN n := ⟨_, rfl⟩
 rw [← hq] at hl ⊢
 have HQ := Hh hq
 clear hq
 go_upto_block 0 with fail
 go_cut [10, 11] (fun bg out wx => PutMid g b T n at_ w bg out wx)
 case first =>
  obtain ⟨hTb, ⟨f, hM, hf⟩, hlow⟩ := hT1
  have tc := hTb.cell_ 0 rfl
  have HF := Hh hf
  have HLOW := Hh hlow
  clear hf hlow
  go_wp2_with fail
  go_loopg [10, 11, 36] n.length (fun kk bg out i wr => ∃ k : Nat, k ≤ n.length ∧ kk = n.length - k ∧ i = .int .i64 k ∧ bg = .slice A1 n.length c1 ∧ out = .string (bs (q ++ [0])) ∧ Hid (∀ j, j < k → look T (n.drop j) = none) ∧ ∃ d, wr = w1.drewN d)
  case atStart => exact ⟨0, Nat.zero_le _, rfl, rfl, rfl, rfl, Hh (fun j hj => by omega), 0, rfl⟩
  case round =>
   obtain ⟨k, hk, hgk, rfl, rfl, rfl, HN, d, rfl⟩ := hrel
   have HGK := Hh hgk
   clear hgk
   by_cases hlt : k < n.length
   ·
    have hlt' : (k : Int) < n.length := by omega
    obtain ⟨B, hA1⟩ : ∃ B, A1 = some ⟨B, 0, none⟩ := by
     rcases ho.2 with ⟨_, h0⟩ | ⟨B, cap, cur, hv, _⟩
     ·
      omega
     ·
      exact ⟨B, by injection hv⟩
    subst hA1
    have hcell := ho.cellAt k (by omega)
    have hbk : (ints (begs n n.length))[k]? = some (.int .i64 (lsum (n.take k) : Int)) := by simp [ints, begs, hlt]
    rw [hbk] at hcell
    have hlk1 := lsum_take_le n k
    have hd1 : q.drop (lsum (n.take k)) = encN (n.drop k) := by rw [HQ.out, encN_drop]
    have HD1 := Hh hd1
    clear hd1 hbk
    obtain ⟨p, hp⟩ : ∃ p, p = lsum (n.take k) := ⟨_, rfl⟩
    rw [← hp] at hcell HD1 hlk1
    have HP := Hh hp
    have hpq : (p : Int) ≤ q.length := by
     have e : q.length = lsum n := by rw [HQ.out, encN_length]
     omega
    clear hp
    have hlook : ∀ d', (Instr.lookup 423 (.map (some b)) (.string (bs (q.drop p))) true).run prog (w1.drewN d') = .ok (.tuple #[.int .i64 ((f (q.drop p)).getD 0 : Nat), .bool (f (q.drop p)).isSome]) (w1.drewN d') := fun d' =>
     (show MapOf (w1.drewN d') b T.length f from hM).look (q.drop p) (by simp only [maxLen, List.length_drop]; omega)
    have hfk : f (q.drop p) = look T (n.drop k) := by rw [HD1.out]; exact HF.out _ (GG.out.drop k)
    cases hlo : look T (n.drop k) with
    | none =>
     rw [hlo] at hfk
     rw [hfk] at hlook
     simp only [Option.getD_none, Option.isSome_none] at hlook
     have HLO := Hh hlo
     clear hlo hfk
     go_wp2_with fail
     go_quiet (fail)
     go_wp2_with fail
     go_roundg (n.length - (k + 1))
     case measure => have := HGK.out; omega
     case rel => exact ⟨k + 1, by omega, rfl, by go_num, rfl, rfl, Hh (fun j hj => by
      by_cases e : j = k
      ·
       subst e; exact HLO.out
      ·
       exact HN.out j (by omega)), _, rfl⟩
    | some q0 =>
     rw [hlo] at hfk
     rw [hfk] at hlook
     simp only [Option.getD_some, Option.isSome_some] at hlook
     have hq0 : q0 < 16384 := HLOW.out _ (look_mem hlo)
     have hhit := pgo_hit T at_ n k q0 hlt HN.out hlo
     have HH := Hh hhit
     have htk : q.take p = encN (n.take k) := by rw [HQ.out, HP.out, encN_take']
     have HTK := Hh htk
     clear hlo hfk hhit htk
     have hq0' : (q0 : Int) < 16384 := by omega
     have hcap : n.length ≤ c1 := by
      rcases ho.2 with ⟨hv, _⟩ | ⟨_, _, _, hv, _, _, hh, _⟩
      ·
       cases hv
      ·
       injection hv with _ _ h3; omega
     go_wp2_with fail
     go_quiet (fail)
     go_wp2_with fail
     have hw1 : IntKind.i64.wrap (49152 + (q0 : Int)) = 49152 + (q0 : Int) := IntWalk.i64_in _ (by omega)
     obtain ⟨W, hW⟩ : ∃ W, W = (w1.drewN d).drewN nq := ⟨_, rfl⟩
     rw [← hW]
     have hBW : Below w1.heap.size w1 W := hW ▸ below_drewN (below_drewN (Below.refl _ _) _) _
     clear hW
     have hpl := putB_length 2 (49152 + (q0 : Int))
     have hadd : ∀ W : World, (Op.stringOp .add (bs (q.take p)) (bs (putB 2 (49152 + (q0 : Int))))).run prog W = .ok (.string (bs (q.take p ++ putB 2 (49152 + (q0 : Int))))) W := fun W => by rw [run_string_add_sum W _ _ (by simp only [bs_size, List.length_take]; omega), bs_app]
     clear hpl
     go_region_held3 (fun w' => Below W.heap.size W w') (first | exact (Below.refl _ _).drew | exact held_step (by assumption) b3)
      ((go_at_call 320; refine (put_any _ _ _).mono ?_; rw [show hw 2 = 2 from rfl]; rintro e w3 ⟨rfl, b3⟩))
     clear hadd
     go_wp2_with fail
     go_meet
     case rel => exact putMid_mk hk (by rw [HTK.out]; exact HH.out) HN ho ⟨hTb, ⟨f, hM, HF.out⟩, HLOW.out⟩ hB (below_then hBW hBW.size (by assumption))
   ·
    obtain rfl : k = n.length := by omega
    have hmiss := Hh (pgo_miss T at_ n HN.out)
    have hlt' : ¬ (n.length : Int) < n.length := by omega
    go_wp2_with fail
    go_meet
    case rel => exact putMid_mk (Nat.le_refl _) (by rw [HQ.out]; exact hmiss.out) HN ho ⟨hTb, ⟨f, hM, HF.out⟩, HLOW.out⟩ hB (below_drewN (Below.refl _ _) _)
 case rest =>
  have hbw : b < w.heap.size := hT.2.1.elim fun f h => h.1.lt
  obtain ⟨k, c2, A2, hk2, rfl, rfl, hrows, hnone, hcells, hT2, hB2⟩ := hcut
  have HR := Hh hrows
  have HN := Hh hnone
  have HCE := Hh hcells
  clear hrows hnone hcells ho hT1 hB hT
  obtain ⟨out, ho⟩ : ∃ out, out = (pgo T at_ [] n).1 := ⟨_, rfl⟩
  rw [← ho]
  have HO := Hh ho
  clear ho
  by_cases hat : at_ < 0 ∨ 16384 ≤ at_
  ·
   have hrn := rowsK_none at_ 0 n k hat
   have HRN := Hh hrn
   clear hrn
   have hB3 := grown_of_below hB2 (some b)
   rcases hat with h | h
   ·
    have d1 : decide (at_ < 0) = true := decide_eq_true h
    go_wp2_with fail
    go_ret2
    exact putRet_mk HO.out (by rw [HR.out, HRN.out, List.append_nil]) hT2 hB3
   ·
    have h0 : 0 ≤ at_ := by omega
    have d1 : decide (at_ < 0) = false := decide_eq_false (by omega)
    go_wp2_with fail
    go_ret2
    exact putRet_mk HO.out (by rw [HR.out, HRN.out, List.append_nil]) hT2 hB3
  ·
   have h0 : 0 ≤ at_ := by omega
   have h1 : at_ < 16384 := by omega
   have d1 : decide (at_ < 0) = false := decide_eq_false (by omega)
   have d2 : decide (16384 ≤ at_) = false := decide_eq_false (by omega)
   have tc := hT2.1.cell_ 0 rfl
   have hem : ∀ W : World, (binOp .eql 423 (.map (some b)) (.map none)).run prog W = .ok (.bool false) W := fun W => by rw [run_eql_map_nil W 423 _ _ _ underlying423]; rfl
   clear hat
   go_wp2_with fail
   go_loopg [82] k (fun kk i wr => ∃ j : Nat, j ≤ k ∧ kk = k - j ∧ i = .int .i64 j ∧ TabAt wr g b (T ++ rowsK at_ 0 n j) ∧ wc.grownBy wr (some b))
   case atStart => exact ⟨0, Nat.zero_le _, rfl, rfl, by simpa [rowsK] using hT2, World.grownBy.refl _ _⟩
   case round =>
    obtain ⟨j, hj, hgk, rfl, hTj, hgr⟩ := hrel
    have HGK := Hh hgk
    clear hgk tc hT2
    by_cases hlt : j < k
    ·
     have hlt' : (j : Int) < k := by omega
     obtain ⟨B, hA2, hBw, hBx, hcell0⟩ := HCE.out j hlt
     subst hA2
     have hcell := (grown_cell hgr ⟨B, j, none⟩ hBx (by simp; omega)).trans hcell0
     have hlk1 := lsum_take_le n j
     obtain ⟨p, hp⟩ : ∃ p, p = lsum (n.take j) := ⟨_, rfl⟩
     rw [← hp] at hcell hlk1
     have HP := Hh hp
     have hqe : q.length = lsum n := by rw [HQ.out, encN_length]
     have hpq : (p : Int) ≤ q.length := by omega
     have hd1 : q.drop p = encN (n.drop j) := by rw [HQ.out, HP.out, encN_drop]
     have HD1 := Hh hd1
     have HL := Hh (look_rows (at_ := at_) (show j < n.length by omega) (HN.out j hlt))
     clear hp hqe hd1 hcell0
     obtain ⟨hTb, ⟨f, hM, hf⟩, hlow⟩ := hTj
     have HF := Hh hf
     have HLOW := Hh hlow
     have tc := hTb.cell_ 0 rfl
     clear hf hlow
     by_cases hlo : at_ + p < 16384
     ·
      have hx : ((at_.toNat + p : Nat) : Int) = at_ + p := by omega
      obtain ⟨w', hrun, hM', hg'⟩ := (show MapOf wr.drew b _ f from hM).store (q.drop p) (by simp only [maxLen, List.length_drop]; omega) (at_.toNat + p) (by omega) (by have := rowsK_length at_ 0 n j; simp only [maxLen, List.length_append]; omega)
      rw [hx] at hrun
      have hw1 : IntKind.i64.wrap (at_ + (p : Int)) = at_ + (p : Int) := IntWalk.i64_in _ (by omega)
      have HX := Hh hx
      clear hx
      have hRS : rowsK at_ 0 n (j + 1) = rowsK at_ 0 n j ++ [(n.drop j, at_.toNat + p)] := by
       have e : (at_ + ((0 + p : Nat) : Int)).toNat = at_.toNat + p := by omega
       rw [rowsK_succ, ← HP.out, e, if_pos ((low_iff _ _).2 ⟨h0, h1, by simpa using hlo⟩)]
      have hTN : TabAt w' g b (T ++ rowsK at_ 0 n (j + 1)) := by
       rw [hRS, ← List.append_assoc]
       exact tab_row hTb (hM.ne_blk hTb) hM' HF.out HLOW.out HD1.out (GG.out.drop j) HL.out (by omega) hg'
      have hgr2 : wc.grownBy w' (some b) := grown_trans (grown_drew hgr) hg' (.inl rfl)
      clear hRS hM' hg'
      go_wp2_with fail
      go_region
      go_wp2_with fail
      go_roundg (k - (j + 1))
      case measure => have := HGK.out; omega
      case rel => exact ⟨j + 1, by omega, rfl, by go_num, hTN, hgr2⟩
     ·
      have hlo' : 16384 ≤ at_ + p := by omega
      have hRS : rowsK at_ 0 n (j + 1) = rowsK at_ 0 n j := by
       rw [rowsK_succ, ← HP.out, if_neg (by rw [low_iff]; simp; omega), List.append_nil]
      have hTN : TabAt wr g b (T ++ rowsK at_ 0 n (j + 1)) := by
       rw [hRS]
       exact ⟨hTb, ⟨f, hM, HF.out⟩, HLOW.out⟩
      clear hRS
      go_wp2_with fail
      go_roundg (k - (j + 1))
      case measure => have := HGK.out; omega
      case rel => exact ⟨j + 1, by omega, rfl, by go_num, hTN, hgr⟩
    ·
     obtain rfl : j = k := by omega
     have hlt' : ¬ (j : Int) < j := by omega
     go_wp2_with fail
     go_ret2
     exact putRet_mk HO.out (by rw [HR.out]) hTj (grown_trans (grown_of_below hB2 (some b)) hgr (.inl rfl))
structure GS where
 at' : Nat
 size : Nat
 bound : Nat
 behind : Option Nat
 acc : List (List UInt8)
inductive GO where
 | go (s : GS)
 | err (e : Int)
 | ok (l : List (List UInt8)) (n : Nat)
def gstep (m : List UInt8) (s : GS) : GO :=
 if m.length ≤ s.at' then .err 1
 else if (m.getD s.at' 0).toNat = 0 then .ok s.acc (s.behind.getD (s.at' + 1))
 else if (m.getD s.at' 0).toNat ≤ 63 then
  if m.length < s.at' + 1 + (m.getD s.at' 0).toNat then .err 1
  else if 255 < s.size + ((m.getD s.at' 0).toNat + 1) then .err 3
  else .go { s with at' := s.at' + 1 + (m.getD s.at' 0).toNat, size := s.size + ((m.getD s.at' 0).toNat + 1), acc := s.acc ++ [(m.take (s.at' + 1 + (m.getD s.at' 0).toNat)).drop (s.at' + 1)] }
 else if (m.getD s.at' 0).toNat < 192 then .err 7
 else if m.length ≤ s.at' + 1 then .err 1
 else if s.bound ≤ (m.getD s.at' 0).toNat * 256 + (m.getD (s.at' + 1) 0).toNat - 49152 then .err 9
 else .go { s with at' := (m.getD s.at' 0).toNat * 256 + (m.getD (s.at' + 1) 0).toNat - 49152, bound := (m.getD s.at' 0).toNat * 256 + (m.getD (s.at' + 1) 0).toNat - 49152, behind := some (s.behind.getD (s.at' + 2)) }
inductive Gets (m : List UInt8) : GS → GO → Prop where
 | err {s e} : gstep m s = .err e → Gets m s (.err e)
 | ok {s l n} : gstep m s = .ok l n → Gets m s (.ok l n)
 | go {s s' o} : gstep m s = .go s' → Gets m s' o → Gets m s o
def gmeas (s : GS) : Nat := s.bound * 300 + (300 - s.size)
theorem gstep_lt {m : List UInt8} {s s' : GS} (h : gstep m s = .go s') (hs : s.size ≤ 255) : gmeas s' < gmeas s ∧ s'.size ≤ 255 := by
 unfold gstep at h
 repeat' split at h
 all_goals first
  | (injection h with h; subst h; simp only [gmeas]; constructor <;> omega)
  | exact GO.noConfusion h
theorem gets_err {m : List UInt8} {s : GS} {o : GO} {e : Int} (h : Gets m s o) (he : gstep m s = .err e) : o = .err e := by
 cases h <;> simp_all
theorem gets_ok {m : List UInt8} {s : GS} {o : GO} {l n} (h : Gets m s o) (he : gstep m s = .ok l n) : o = .ok l n := by
 cases h <;> simp_all
theorem gets_go {m : List UInt8} {s s' : GS} {o : GO} (h : Gets m s o) (he : gstep m s = .go s') : Gets m s' o := by
 cases h <;> simp_all
section
variable {m : List UInt8} {at' size bound c : Nat} {behind : Option Nat} {acc : List (List UInt8)}
theorem gs_zero (h1 : ¬ m.length ≤ at') (hc : 0 = (m.getD at' 0).toNat) : gstep m ⟨at', size, bound, behind, acc⟩ = .ok acc (behind.getD (at' + 1)) := by
 unfold gstep; simp only; rw [if_neg h1, if_pos hc.symm]
theorem gs_lab (h1 : ¬ m.length ≤ at') (hc : c = (m.getD at' 0).toNat) (h0 : c ≠ 0) (h63 : c ≤ 63) (hs : ¬ m.length < at' + 1 + c) (hz : ¬ 255 < size + (c + 1)) :
  gstep m ⟨at', size, bound, behind, acc⟩ = .go ⟨at' + 1 + c, size + (c + 1), bound, behind, acc ++ [(m.take (at' + 1 + c)).drop (at' + 1)]⟩ := by
 unfold gstep; simp only; rw [← hc, if_neg h1, if_neg h0, if_pos h63, if_neg hs, if_neg hz]
theorem gs_ptr {d : Nat} (h1 : ¬ m.length ≤ at') (hc : c = (m.getD at' 0).toNat) (h192 : ¬ c < 192) (hs : ¬ m.length ≤ at' + 1) (hd : d = (m.getD (at' + 1) 0).toNat) (hb : ¬ bound ≤ c * 256 + d - 49152) :
  gstep m ⟨at', size, bound, behind, acc⟩ = .go ⟨c * 256 + d - 49152, size, c * 256 + d - 49152, some (behind.getD (at' + 2)), acc⟩ := by
 unfold gstep; simp only; rw [← hc, ← hd, if_neg h1, if_neg (by omega), if_neg (by omega), if_neg h192, if_neg hs, if_neg hb]
end
def gres (m : List UInt8) : Nat → GS → GO
 | 0, _ => .err 15
 | k + 1, s => match gstep m s with
  | .go s' => gres m k s'
  | .err e => .err e
  | .ok l n => .ok l n
theorem gets_gres (m : List UInt8) : ∀ (k : Nat) (s : GS), gmeas s < k → s.size ≤ 255 → Gets m s (gres m k s) := by
 intro k
 induction k with
 | zero => intro s h; omega
 | succ k ih =>
  intro s h hs
  unfold gres
  cases e : gstep m s with
  | err x => exact .err e
  | ok l n => exact .ok e
  | go s' =>
   obtain ⟨h1, h2⟩ := gstep_lt e hs
   exact .go e (ih s' (by omega) h2)
theorem gets_fun {m : List UInt8} {s : GS} {o o' : GO} (h : Gets m s o) (h' : Gets m s o') : o = o' := by
 induction h with
 | err e => exact (gets_err h' e).symm
 | ok e => exact (gets_ok h' e).symm
 | go e _ ih => exact ih (gets_go h' e)
def gresAt (m : List UInt8) (a : Nat) : GO := gres m (a * 300 + 300) ⟨a, 1, a, none, []⟩
theorem gets_at (m : List UInt8) (a : Nat) : Gets m ⟨a, 1, a, none, []⟩ (gresAt m a) := gets_gres m _ _ (by simp [gmeas]) (by simp)
def outR (m : List UInt8) (at_ : Int) : Bool := decide (at_ < 0) || decide ((m.length : Int) < at_)
def pget (m : List UInt8) (at_ : Int) : GO := if outR m at_ then .err 4 else gresAt m at_.toNat
theorem ret_str2 {a b : List UInt8} {e : Int} (h : a = b) : Ending.returned (.tuple #[.string (bs a), .int .i64 e]) = .returned (.tuple #[.string (bs b), .int .i64 e]) := by rw [h]
end Go.Proofs.YteimenplbanooaaGreatDoor
