/-
  Layers 1 and 47, plainly: numbers in digits; texts, quoted.
-/
import Derived.Test.YteimenplbanooaaGreatDoorRASq
import Derived.Lib.ItoaNum
import Derived.Lib.ItoaLen
import Derived.Lib.Index
namespace Go.Proofs.YteimenplbanooaaGreatDoor
open _root_.Go.Proofs.Tryz
open Go.RowKit
set_option maxRecDepth 100000
set_option linter.unusedVariables false
set_option linter.unusedSimpArgs false
def hexD (n : Nat) : UInt8 := ([48, 49, 50, 51, 52, 53, 54, 55, 56, 57, 97, 98, 99, 100, 101, 102] : List UInt8).getD n 0
def quadT (a b c d : Nat) : List UInt8 := Lib.itoa a ++ 46 :: (Lib.itoa b ++ 46 :: (Lib.itoa c ++ 46 :: Lib.itoa d))
def ipN (ip : List UInt8) (i : Nat) : Nat := (ip.getD i 0).toNat
def quadA4 (ip : List UInt8) (i : Nat) : List UInt8 := quadT (ipN ip i) (ipN ip (i + 1)) (ipN ip (i + 2)) (ipN ip (i + 3))
def grp (ip : List UInt8) (i : Nat) : Nat := 256 * ipN ip (2 * i) + ipN ip (2 * i + 1)
theorem ipN_lt (ip : List UInt8) (i : Nat) : ipN ip i < 256 := UInt8.toNat_lt _
theorem grp_lt (ip : List UInt8) (i : Nat) : grp ip i < 65536 := by
 have := ipN_lt ip (2 * i)
 have := ipN_lt ip (2 * i + 1)
 unfold grp
 omega
def hexF : Nat → Nat → List UInt8 → List UInt8
 | 0, _, s => s
 | f + 1, m, s => if m = 0 then s else hexF f (m / 16) (hexD (m % 16) :: s)
def hexN (n : Nat) : List UInt8 := if n = 0 then [48] else hexF 4 n []
theorem hexF_len : ∀ (f m : Nat) (s : List UInt8), (hexF f m s).length ≤ f + s.length := by
 intro f
 induction f with
 | zero => intro m s; simp [hexF]
 | succ f ih =>
  intro m s
  unfold hexF
  split
  ·
   omega
  ·
   refine Nat.le_trans (ih _ _) ?_
   simp; omega
theorem hexN_len (n : Nat) : (hexN n).length ≤ 4 := by
 unfold hexN
 split
 ·
  simp
 ·
  exact hexF_len 4 n []
def joinC (c : UInt8) : List (List UInt8) → List UInt8
 | [] => []
 | l :: ls => l ++ ls.flatMap (fun x => c :: x)
def runZ : List Bool → Nat
 | true :: z => runZ z + 1
 | _ => 0
def rowStep (z : List Bool) (s : Nat × Nat) (i : Nat) : Nat × Nat := if s.2 < runZ (z.drop i) then (i, runZ (z.drop i)) else s
def rowP (z : List Bool) : Nat × Nat := (List.range 8).foldl (rowStep z) (0, 0)
def emptyZ (z : List Bool) (f n : Nat) : Bool := decide (n ≤ runZ (z.drop f))
def rowR (z : List Bool) : Nat × Nat := (((List.range 7).map (8 - ·)).flatMap (fun n => (List.range (9 - n)).map (fun f => (f, n)))).find? (fun p => emptyZ z p.1 p.2) |>.getD (8, 0)
theorem rowR_eq : ∀ a b c d e f g h : Bool, rowR [a, b, c, d, e, f, g, h] = if (rowP [a, b, c, d, e, f, g, h]).2 < 2 then (8, 0) else rowP [a, b, c, d, e, f, g, h] := by decide +kernel
theorem rowP_ok : ∀ a b c d e f g h : Bool, (rowP [a, b, c, d, e, f, g, h]).1 + (rowP [a, b, c, d, e, f, g, h]).2 ≤ 8 := by decide +kernel
theorem row_map : ∀ a b c d e g h : Bool, (decide ((rowP [a, b, c, d, e, false, g, h]).1 = 0) && decide ((rowP [a, b, c, d, e, false, g, h]).2 = 5)) = (a && b && c && d && e) := by decide +kernel
def zerosG (ip : List UInt8) : List Bool := (List.range 8).map (fun i => decide (grp ip i = 0))
theorem zerosG_eq (ip : List UInt8) : zerosG ip = [decide (grp ip 0 = 0), decide (grp ip 1 = 0), decide (grp ip 2 = 0), decide (grp ip 3 = 0), decide (grp ip 4 = 0), decide (grp ip 5 = 0), decide (grp ip 6 = 0), decide (grp ip 7 = 0)] := rfl
def phaseT (hs : List (List UInt8)) (f n i : Nat) : List UInt8 := if i ≤ f then joinC 58 (hs.take i) else if i ≤ f + n then joinC 58 (hs.take f) ++ [58, 58] else joinC 58 (hs.take f) ++ [58, 58] ++ joinC 58 ((hs.drop (f + n)).take (i - (f + n)))
def hexG (ip : List UInt8) : List (List UInt8) := (List.range 8).map (fun i => hexN (grp ip i))
def mapG (ip : List UInt8) : Bool := emptyZ (zerosG ip) 0 5 && decide (grp ip 5 = 65535)
def bareT (ip : List UInt8) : List UInt8 := if mapG ip = true then [58, 58, 102, 102, 102, 102, 58] ++ quadA4 ip 12 else phaseT (hexG ip) (rowR (zerosG ip)).1 (rowR (zerosG ip)).2 8
def colonT (a : Adr) : List UInt8 := bareT a.ip ++ (if 0 < a.zone then 37 :: Lib.itoa a.zone else [])
def adrT (a : Adr) : List UInt8 := if a.fam = 4 then quadA4 a.ip 0 else if a.fam = 6 then colonT a else []
def natsG (ip : List UInt8) : List Nat := (List.range 8).map (grp ip)
theorem natsG_len (ip : List UInt8) : (natsG ip).length = 8 := by simp [natsG]
theorem natsG_hex (ip : List UInt8) : (natsG ip).map hexN = hexG ip := by simp [natsG, hexG]
theorem natsG_at (ip : List UInt8) {i : Nat} (h : i < 8) : (natsG ip)[i]'(by rw [natsG_len]; exact h) = grp ip i := by simp [natsG]
theorem natsG_lt (ip : List UInt8) : ∀ n ∈ natsG ip, n < 65536 := by
 intro n hn
 obtain ⟨i, _, rfl⟩ := List.mem_map.1 hn
 exact grp_lt ip i
theorem empty5 : ∀ a b c d e f g h : Bool, emptyZ [a, b, c, d, e, f, g, h] 0 5 = (a && b && c && d && e) := by decide +kernel
theorem mapG_no {ip : List UInt8} (h : grp ip 5 ≠ 65535) : mapG ip = false := by
 unfold mapG
 rw [decide_eq_false h, Bool.and_false]
theorem mapG_yes {ip : List UInt8} (h : grp ip 5 = 65535) : mapG ip = (decide ((rowP (zerosG ip)).1 = 0) && decide ((rowP (zerosG ip)).2 = 5)) := by
 unfold mapG
 rw [decide_eq_true h, Bool.and_true, zerosG_eq]
 have h5 : decide (grp ip 5 = 0) = false := decide_eq_false (by omega)
 rw [h5, empty5, row_map]
theorem rowR_zeros (ip : List UInt8) : rowR (zerosG ip) = if (rowP (zerosG ip)).2 < 2 then (8, 0) else rowP (zerosG ip) := by rw [zerosG_eq]; exact rowR_eq ..
theorem rowP_zeros (ip : List UInt8) : (rowP (zerosG ip)).1 + (rowP (zerosG ip)).2 ≤ 8 := by rw [zerosG_eq]; exact rowP_ok ..
theorem hexG_len (ip : List UInt8) : (hexG ip).length = 8 := by simp [hexG]
theorem bareT_map {ip : List UInt8} (h : mapG ip = true) : bareT ip = [58, 58, 102, 102, 102, 102, 58] ++ quadA4 ip 12 := by unfold bareT; rw [if_pos h]
theorem bareT_all {ip : List UInt8} (h : ¬ mapG ip = true) (h2 : (rowP (zerosG ip)).2 < 2) : bareT ip = joinC 58 (hexG ip) := by
 unfold bareT
 rw [if_neg h, rowR_zeros, if_pos h2]
 unfold phaseT
 rw [if_pos (Nat.le_refl 8), List.take_of_length_le (by rw [hexG_len]; exact Nat.le_refl 8)]
theorem bareT_two {ip : List UInt8} (h : ¬ mapG ip = true) (h2 : ¬ (rowP (zerosG ip)).2 < 2) : bareT ip = joinC 58 ((hexG ip).take (rowP (zerosG ip)).1) ++ [58, 58] ++ joinC 58 ((hexG ip).drop ((rowP (zerosG ip)).1 + (rowP (zerosG ip)).2)) := by
 have hok := rowP_zeros ip
 unfold bareT
 rw [if_neg h, rowR_zeros, if_neg h2]
 generalize rowP (zerosG ip) = P at *
 have hl := hexG_len ip
 generalize hexG ip = hs at *
 unfold phaseT
 rw [if_neg (show ¬ 8 ≤ P.1 by omega)]
 by_cases h8 : 8 ≤ P.1 + P.2
 ·
  rw [if_pos h8, List.drop_of_length_le (by omega)]
  simp [joinC]
 ·
  rw [if_neg h8]
  rw [List.take_of_length_le (l := hs.drop (P.1 + P.2)) (by rw [List.length_drop]; omega)]
def I64 (n : Int) : Prop := -9223372036854775808 ≤ n ∧ n ≤ 9223372036854775807
structure Inf where
 a : Adr
 port : Int
 sock : Int
def infC (x : Inf) : List Value := x.a.cells ++ [.int .i64 x.port, .int .i64 x.sock]
theorem infC_len {x : Inf} (h : x.a.ip.length = 16) : (infC x).length = 20 := by unfold infC; rw [List.length_append, x.a.cells_len h]; rfl
def hexVal (c : UInt8) : Nat := if c.toNat ≤ 57 then c.toNat - 48 else c.toNat - 87
def isHx (c : UInt8) : Bool := (decide (48 ≤ c.toNat) && decide (c.toNat ≤ 57)) || (decide (97 ≤ c.toNat) && decide (c.toNat ≤ 102))
theorem hexD_ok : ∀ d, d < 16 → isHx (hexD d) = true ∧ hexVal (hexD d) = d := by decide
def grpS (m : Nat) (c : UInt8) : Nat := 16 * m + hexVal c
theorem hexF_val : ∀ (f m : Nat) (s : List UInt8), m < 16 ^ f → (hexF f m s).foldl grpS 0 = s.foldl grpS m := by
 intro f
 induction f with
 | zero =>
  intro m s h
  have : m = 0 := by simpa using h
  subst this
  rfl
 | succ f ih =>
  intro m s h
  unfold hexF
  split
  ·
   rename_i h0; rw [h0]
  ·
   have h2 : m / 16 < 16 ^ f := by rw [Nat.pow_succ] at h; omega
   rw [ih _ _ h2, List.foldl_cons]
   have := (hexD_ok (m % 16) (by omega)).2
   unfold grpS
   rw [this]
   congr 1
   omega
theorem hexN_val {n : Nat} (h : n < 65536) : (hexN n).foldl grpS 0 = n := by
 unfold hexN
 split
 ·
  rename_i h0; rw [h0]; rfl
 ·
  rw [hexF_val 4 n [] (by omega)]; rfl
theorem hexF_hx : ∀ (f m : Nat) (s : List UInt8), (∀ c ∈ s, isHx c = true) → ∀ c ∈ hexF f m s, isHx c = true := by
 intro f
 induction f with
 | zero => intro m s h; exact h
 | succ f ih =>
  intro m s h
  unfold hexF
  split
  ·
   exact h
  ·
   refine ih _ _ (fun c hc => ?_)
   rcases List.mem_cons.1 hc with rfl | hc
   ·
    exact (hexD_ok (m % 16) (by omega)).1
   ·
    exact h c hc
theorem hexN_hx (n : Nat) : ∀ c ∈ hexN n, isHx c = true := by
 unfold hexN
 split
 ·
  intro c hc; rw [List.mem_singleton.1 hc]; decide
 ·
  exact hexF_hx 4 n [] (fun c hc => by cases hc)
theorem hexF_ge : ∀ (f m : Nat) (s : List UInt8), s.length ≤ (hexF f m s).length := by
 intro f
 induction f with
 | zero => intro m s; exact Nat.le_refl _
 | succ f ih =>
  intro m s
  unfold hexF
  split
  ·
   exact Nat.le_refl _
  ·
   exact Nat.le_trans (by simp) (ih _ _)
theorem hexN_pos (n : Nat) : 0 < (hexN n).length := by
 unfold hexN
 split
 ·
  simp
 ·
  rename_i h0
  unfold hexF
  rw [if_neg h0]
  exact Nat.lt_of_lt_of_le (by simp) (hexF_ge 3 _ _)
theorem hx_not {s : List UInt8} (h : ∀ c ∈ s, isHx c = true) {c : UInt8} (hc : isHx c = false) : c ∉ s := fun hm => by rw [h c hm] at hc; cases hc
theorem hexN_58 (n : Nat) : (58 : UInt8) ∉ hexN n := hx_not (hexN_hx n) (by decide)
theorem hexN_37 (n : Nat) : (37 : UInt8) ∉ hexN n := hx_not (hexN_hx n) (by decide)
theorem ix_skip {c : UInt8} (hc : c ≠ 58) (s : List UInt8) : Lib.index (c :: s) [58, 58] = if Lib.index s [58, 58] == -1 then -1 else Lib.index s [58, 58] + 1 := by
 have : ((58 : UInt8) == c) = false := beq_eq_false_iff_ne.2 (Ne.symm hc)
 simp [Lib.index, List.isPrefixOf, this]
theorem ix_colon {c : UInt8} (hc : c ≠ 58) (s : List UInt8) : Lib.index (58 :: c :: s) [58, 58] = if Lib.index (c :: s) [58, 58] == -1 then -1 else Lib.index (c :: s) [58, 58] + 1 := by
 have : ((58 : UInt8) == c) = false := beq_eq_false_iff_ne.2 (Ne.symm hc)
 conv => lhs; unfold Lib.index
 simp [List.isPrefixOf, this]
theorem ix_here (s : List UInt8) : Lib.index (58 :: 58 :: s) [58, 58] = 0 := by simp [Lib.index, List.isPrefixOf]
theorem ix_nil : Lib.index [] [58, 58] = -1 := rfl
theorem ix_piece : ∀ (p : List UInt8), (58 : UInt8) ∉ p → ∀ s, Lib.index (p ++ s) [58, 58] = if Lib.index s [58, 58] == -1 then -1 else Lib.index s [58, 58] + p.length := by
 intro p
 induction p with
 | nil => intro _ s; by_cases h : Lib.index s [58, 58] = -1 <;> simp [h]
 | cons c p ih =>
  intro hp s
  have hc : c ≠ 58 := fun e => hp (by rw [e]; exact List.mem_cons_self ..)
  have hge := Lib.index_ge s [58, 58]
  rw [List.cons_append, ix_skip hc, ih (fun h => hp (List.mem_cons_of_mem _ h)) s]
  by_cases h : Lib.index s [58, 58] = -1
  ·
   simp [h]
  ·
   have h2 : ¬ (Lib.index s [58, 58] + (p.length : Int) = -1) := by omega
   simp [h, h2]
   omega
def Pcs (ps : List (List UInt8)) : Prop := ∀ p ∈ ps, 0 < p.length ∧ (58 : UInt8) ∉ p
theorem joinC_two (c : UInt8) (p q : List UInt8) (ps : List (List UInt8)) : joinC c (p :: q :: ps) = p ++ c :: joinC c (q :: ps) := by simp [joinC]
theorem Pcs.head {p : List UInt8} {ps : List (List UInt8)} (h : Pcs (p :: ps)) : ∃ c t, c ≠ 58 ∧ joinC 58 (p :: ps) = c :: t := by
 obtain ⟨h1, h2⟩ := h p (List.mem_cons_self ..)
 cases p with
 | nil => simp at h1
 | cons c t => exact ⟨c, t ++ ps.flatMap (fun x => 58 :: x), fun e => h2 (by rw [e]; exact List.mem_cons_self ..), by simp [joinC]⟩
theorem ix_join : ∀ (ps : List (List UInt8)), Pcs ps → Lib.index (joinC 58 ps) [58, 58] = -1 ∧ ∀ B, Lib.index (joinC 58 ps ++ 58 :: 58 :: B) [58, 58] = ((joinC 58 ps).length : Int) := by
 intro ps
 induction ps with
 | nil => intro _; exact ⟨rfl, fun B => by simpa [joinC] using ix_here B⟩
 | cons p ps ih =>
  intro h
  have hp := h p (List.mem_cons_self ..)
  cases ps with
  | nil =>
   refine ⟨?_, fun B => ?_⟩
   ·
    have := ix_piece p hp.2 []
    simpa [joinC, ix_nil] using this
   ·
    have := ix_piece p hp.2 (58 :: 58 :: B)
    rw [ix_here] at this
    simpa [joinC] using this
  | cons q ps =>
   have hq : Pcs (q :: ps) := fun x hx => h x (List.mem_cons_of_mem _ hx)
   obtain ⟨i1, i2⟩ := ih hq
   obtain ⟨c, t, hc, he⟩ := hq.head
   rw [joinC_two]
   refine ⟨?_, fun B => ?_⟩
   ·
    rw [ix_piece p hp.2, he, ix_colon hc, ← he, i1]; rfl
   ·
    rw [List.append_assoc, List.cons_append, ix_piece p hp.2, he, List.cons_append, ix_colon hc, ← List.cons_append, ← he, i2 B]
    have h2 : ¬ (((joinC 58 (q :: ps)).length : Int) = -1) := by omega
    have h3 : ¬ (((joinC 58 (q :: ps)).length : Int) + 1 = -1) := by omega
    simp [h2, h3]
    omega
theorem hex_pcs (gs : List Nat) : Pcs (gs.map hexN) := by
 intro p hp
 obtain ⟨n, _, rfl⟩ := List.mem_map.1 hp
 exact ⟨hexN_pos n, hexN_58 n⟩
theorem rowP_in : ∀ a b c d e f g h : Bool, ∀ i, i < 8 → (rowP [a, b, c, d, e, f, g, h]).1 ≤ i → i < (rowP [a, b, c, d, e, f, g, h]).1 + (rowP [a, b, c, d, e, f, g, h]).2 → [a, b, c, d, e, f, g, h][i]? = some true := by decide +kernel
theorem row_zero (ip : List UInt8) {i : Nat} (h8 : i < 8) (h1 : (rowP (zerosG ip)).1 ≤ i) (h2 : i < (rowP (zerosG ip)).1 + (rowP (zerosG ip)).2) : grp ip i = 0 := by
 have := rowP_in _ _ _ _ _ _ _ _ i h8 (by rw [zerosG_eq] at h1; exact h1) (by rw [zerosG_eq] at h2; exact h2)
 rw [← zerosG_eq] at this
 unfold zerosG at this
 rw [List.getElem?_map, List.getElem?_range h8] at this
 simpa using this
theorem row_groups (ip : List UInt8) : natsG ip = (natsG ip).take (rowP (zerosG ip)).1 ++ List.replicate (rowP (zerosG ip)).2 0 ++ (natsG ip).drop ((rowP (zerosG ip)).1 + (rowP (zerosG ip)).2) := by
 have hok := rowP_zeros ip
 refine List.ext_getElem (by simp [natsG_len]; omega) (fun i h1 h2 => ?_)
 rw [natsG_len] at h1
 by_cases ha : i < (rowP (zerosG ip)).1
 ·
  rw [List.getElem_append_left (by simp [natsG_len]; omega), List.getElem_append_left (by simp [natsG_len]; omega), List.getElem_take]
 ·
  by_cases hb : i < (rowP (zerosG ip)).1 + (rowP (zerosG ip)).2
  ·
   rw [List.getElem_append_left (by simp [natsG_len]; omega), List.getElem_append_right (by simp [natsG_len]; omega), List.getElem_replicate, natsG_at ip h1]
   exact row_zero ip h1 (by omega) hb
  ·
   rw [List.getElem_append_right (by simp [natsG_len]; omega), List.getElem_drop]
   congr 1
   simp [natsG_len]
   omega
theorem map_groups {ip : List UInt8} (h : mapG ip = true) : natsG ip = [0, 0, 0, 0, 0, 65535, 256 * ipN ip 12 + ipN ip 13, 256 * ipN ip 14 + ipN ip 15] := by
 unfold mapG at h
 rw [Bool.and_eq_true, decide_eq_true_eq, zerosG_eq, empty5] at h
 obtain ⟨h1, h5⟩ := h
 simp only [Bool.and_eq_true, decide_eq_true_eq] at h1
 obtain ⟨⟨⟨⟨g0, g1⟩, g2⟩, g3⟩, g4⟩ := h1
 have : natsG ip = [grp ip 0, grp ip 1, grp ip 2, grp ip 3, grp ip 4, grp ip 5, grp ip 6, grp ip 7] := rfl
 rw [this, g0, g1, g2, g3, g4, h5]
 rfl
end Go.Proofs.YteimenplbanooaaGreatDoor
