/-
  Layers 1 and 47, plainly: numbers in digits; texts, quoted.
-/
import Derived.Test.YtkcbffldncmbcaaGreatDoorLAq
import Derived.Lib.ItoaNum
import Derived.Lib.ItoaLen
import Derived.Test.YtkcbffldncmbcaaGreatDoorIAq
namespace Go.Proofs.YtkcbffldncmbcaaGreatDoor
open _root_.Go.Proofs.Tryz
open Go.RowKit
set_option maxRecDepth 100000
set_option linter.unusedVariables false
set_option linter.unusedSimpArgs false
def rdigZ (n : Int) : List UInt8 := if n = 0 then [48] else if n < 0 then 45 :: digsF 20 n.natAbs [] else digsF 20 n.natAbs []
theorem tenth (m : Nat) : ([48, 49, 50, 51, 52, 53, 54, 55, 56, 57] : List UInt8).getD (m % 10) 0 = UInt8.ofNat (48 + m % 10) := by
 have h : m % 10 < 10 := Nat.mod_lt _ (by decide)
 generalize m % 10 = j at *
 match j, h with
 | 0, _ | 1, _ | 2, _ | 3, _ | 4, _ | 5, _ | 6, _ | 7, _ | 8, _ | 9, _ => rfl
theorem digsF_dec : ∀ (f m : Nat) (s : List UInt8), 0 < m → m < 10 ^ f → digsF f m s = Lib.decDigits m ++ s := by
 intro f
 induction f with
 | zero => intro m s h1 h2; simp at h2; omega
 | succ f ih =>
  intro m s h1 h2
  unfold digsF
  rw [if_neg (by omega), tenth]
  by_cases h : m < 10
  ·
   have : m / 10 = 0 := by omega
   rw [this, Lib.decDigits_one h]
   have e : digsF f 0 (UInt8.ofNat (48 + m % 10) :: s) = UInt8.ofNat (48 + m % 10) :: s := by cases f <;> simp [digsF]
   rw [e, Nat.mod_eq_of_lt h]
   rfl
  ·
   rw [ih _ _ (by omega) (by rw [Nat.pow_succ] at h2; omega)]
   have e : Lib.decDigits m = Lib.decDigits (m / 10) ++ [UInt8.ofNat (48 + m % 10)] := by rw [Lib.decDigits, dif_neg h]
   rw [e, List.append_assoc]
   rfl
theorem rdigZ_eq (n : Int) (h0 : -9223372036854775808 ≤ n) (h1 : n ≤ 9223372036854775807) : rdigZ n = Lib.itoa n := by
 unfold rdigZ Lib.itoa
 by_cases hz : n = 0
 ·
  subst hz
  rw [if_pos rfl, if_neg (by decide)]
  exact (Lib.decDigits_one (i := 0) (by decide)).symm
 rw [if_neg hz]
 by_cases hn : n < 0
 ·
  rw [if_pos hn, if_pos hn, digsF_dec 20 n.natAbs [] (by omega) (by omega), List.append_nil]
 ·
  rw [if_neg hn, if_neg hn, digsF_dec 20 n.natAbs [] (by omega) (by omega), List.append_nil]
  congr 1
  omega
def quoB (c : UInt8) : List UInt8 := if 33 ≤ c.toNat ∧ c.toNat ≤ 126 ∧ c ≠ 92 then [c] else [92, UInt8.ofNat (48 + c.toNat / 100), UInt8.ofNat (48 + c.toNat / 10 % 10), UInt8.ofNat (48 + c.toNat % 10)]
def quoL (l : List UInt8) : List UInt8 := l.flatMap quoB
theorem quoB_len (c : UInt8) : (quoB c).length ≤ 4 := by
 unfold quoB
 split
 ·
  simp
 ·
  simp
theorem quoL_len (l : List UInt8) : (quoL l).length ≤ 4 * l.length := by
 induction l with
 | nil => simp [quoL]
 | cons c l ih =>
  have := quoB_len c
  have e : quoL (c :: l) = quoB c ++ quoL l := rfl
  rw [e, List.length_append, List.length_cons]
  omega
theorem quoL_snoc (l : List UInt8) (c : UInt8) : quoL (l ++ [c]) = quoL l ++ quoB c := by simp [quoL, List.flatMap_append]
theorem quoL_next {l : List UInt8} {k : Nat} (h : k < l.length) : quoL (l.take (k + 1)) = quoL (l.take k) ++ quoB l[k] := by rw [List.take_succ_eq_append_getElem h, quoL_snoc]
def nameT (n : List (List UInt8)) : List UInt8 := if n = [] then [46] else n.flatMap (fun l => labB l ++ [46])
theorem joinB_dot (l : List UInt8) (ls : List (List UInt8)) : joinB (l :: ls) ++ [46] = (l :: ls).flatMap (fun l => labB l ++ [46]) := by
 have key : ∀ (ls : List (List UInt8)), restB ls ++ [46] = 46 :: ls.flatMap (fun l => labB l ++ [46]) := by
  intro ls
  induction ls with
  | nil => rfl
  | cons a ls ih =>
   have e : restB (a :: ls) = 46 :: (labB a ++ restB ls) := by simp [restB]
   rw [e, List.cons_append, List.append_assoc, ih]
   simp
 simp only [joinB, List.append_assoc, key, List.flatMap_cons]
 simp
theorem nameT_join {n : List (List UInt8)} (h : n ≠ []) : nameT n = joinB n ++ [46] := by
 unfold nameT
 rw [if_neg h]
 cases n with
 | nil => exact absurd rfl h
 | cons l ls => exact (joinB_dot l ls).symm
def hexD (n : Nat) : UInt8 := ([48, 49, 50, 51, 52, 53, 54, 55, 56, 57, 97, 98, 99, 100, 101, 102] : List UInt8).getD n 0
def hexB (c : UInt8) : List UInt8 := [hexD (c.toNat / 16), hexD (c.toNat % 16)]
def hexL (l : List UInt8) : List UInt8 := l.flatMap hexB
theorem hexL_len (l : List UInt8) : (hexL l).length = 2 * l.length := by
 induction l with
 | nil => rfl
 | cons c l ih =>
  have e : hexL (c :: l) = hexB c ++ hexL l := rfl
  rw [e, List.length_append, ih, List.length_cons]
  simp [hexB]; omega
theorem hexL_next {l : List UInt8} {k : Nat} (h : k < l.length) : hexL (l.take (k + 1)) = hexL (l.take k) ++ hexB l[k] := by
 rw [List.take_succ_eq_append_getElem h]
 unfold hexL
 rw [List.flatMap_append]
 simp only [List.flatMap_cons, List.flatMap_nil, List.append_nil]
def hexT (l : List UInt8) : List UInt8 := if l = [] then [45] else hexL l
def quadT (a b c d : Nat) : List UInt8 := Lib.itoa a ++ 46 :: (Lib.itoa b ++ 46 :: (Lib.itoa c ++ 46 :: Lib.itoa d))
def ipN (ip : List UInt8) (i : Nat) : Nat := (ip.getD i 0).toNat
def quadA4 (ip : List UInt8) (i : Nat) : List UInt8 := quadT (ipN ip i) (ipN ip (i + 1)) (ipN ip (i + 2)) (ipN ip (i + 3))
def grp (ip : List UInt8) (i : Nat) : Nat := 256 * ipN ip (2 * i) + ipN ip (2 * i + 1)
theorem ipN_lt (ip : List UInt8) (i : Nat) : ipN ip i < 256 := UInt8.toNat_lt _
theorem grp_lt (ip : List UInt8) (i : Nat) : grp ip i < 65536 := by
 have := ipN_lt ip (2 * i)
 have := ipN_lt ip (2 * i + 1)
 unfold grp
 omega
def hexF : Nat → Nat → List UInt8 → List UInt8
 | 0, _, s => s
 | f + 1, m, s => if m = 0 then s else hexF f (m / 16) (hexD (m % 16) :: s)
def hexN (n : Nat) : List UInt8 := if n = 0 then [48] else hexF 4 n []
theorem hexF_len : ∀ (f m : Nat) (s : List UInt8), (hexF f m s).length ≤ f + s.length := by
 intro f
 induction f with
 | zero => intro m s; simp [hexF]
 | succ f ih =>
  intro m s
  unfold hexF
  split
  ·
   omega
  ·
   refine Nat.le_trans (ih _ _) ?_
   simp; omega
theorem hexN_len (n : Nat) : (hexN n).length ≤ 4 := by
 unfold hexN
 split
 ·
  simp
 ·
  exact hexF_len 4 n []
def joinC (c : UInt8) : List (List UInt8) → List UInt8
 | [] => []
 | l :: ls => l ++ ls.flatMap (fun x => c :: x)
theorem joinC_snoc (c : UInt8) (ls : List (List UInt8)) (l : List UInt8) : joinC c (ls ++ [l]) = joinC c ls ++ (if ls = [] then l else c :: l) := by
 cases ls with
 | nil => simp [joinC]
 | cons a ls => simp [joinC, List.flatMap_append]
def runZ : List Bool → Nat
 | true :: z => runZ z + 1
 | _ => 0
def rowStep (z : List Bool) (s : Nat × Nat) (i : Nat) : Nat × Nat := if s.2 < runZ (z.drop i) then (i, runZ (z.drop i)) else s
def rowP (z : List Bool) : Nat × Nat := (List.range 8).foldl (rowStep z) (0, 0)
def emptyZ (z : List Bool) (f n : Nat) : Bool := decide (n ≤ runZ (z.drop f))
def rowR (z : List Bool) : Nat × Nat := (((List.range 7).map (8 - ·)).flatMap (fun n => (List.range (9 - n)).map (fun f => (f, n)))).find? (fun p => emptyZ z p.1 p.2) |>.getD (8, 0)
theorem rowR_eq : ∀ a b c d e f g h : Bool, rowR [a, b, c, d, e, f, g, h] = if (rowP [a, b, c, d, e, f, g, h]).2 < 2 then (8, 0) else rowP [a, b, c, d, e, f, g, h] := by decide +kernel
theorem rowP_ok : ∀ a b c d e f g h : Bool, (rowP [a, b, c, d, e, f, g, h]).1 + (rowP [a, b, c, d, e, f, g, h]).2 ≤ 8 := by decide +kernel
theorem row_map : ∀ a b c d e g h : Bool, (decide ((rowP [a, b, c, d, e, false, g, h]).1 = 0) && decide ((rowP [a, b, c, d, e, false, g, h]).2 = 5)) = (a && b && c && d && e) := by decide +kernel
def zerosG (ip : List UInt8) : List Bool := (List.range 8).map (fun i => decide (grp ip i = 0))
theorem zerosG_eq (ip : List UInt8) : zerosG ip = [decide (grp ip 0 = 0), decide (grp ip 1 = 0), decide (grp ip 2 = 0), decide (grp ip 3 = 0), decide (grp ip 4 = 0), decide (grp ip 5 = 0), decide (grp ip 6 = 0), decide (grp ip 7 = 0)] := rfl
def phaseT (hs : List (List UInt8)) (f n i : Nat) : List UInt8 := if i ≤ f then joinC 58 (hs.take i) else if i ≤ f + n then joinC 58 (hs.take f) ++ [58, 58] else joinC 58 (hs.take f) ++ [58, 58] ++ joinC 58 ((hs.drop (f + n)).take (i - (f + n)))
def hexG (ip : List UInt8) : List (List UInt8) := (List.range 8).map (fun i => hexN (grp ip i))
def mapG (ip : List UInt8) : Bool := emptyZ (zerosG ip) 0 5 && decide (grp ip 5 = 65535)
def bareT (ip : List UInt8) : List UInt8 := if mapG ip = true then [58, 58, 102, 102, 102, 102, 58] ++ quadA4 ip 12 else phaseT (hexG ip) (rowR (zerosG ip)).1 (rowR (zerosG ip)).2 8
def colonT (a : Adr) : List UInt8 := bareT a.ip ++ (if 0 < a.zone then 37 :: Lib.itoa a.zone else [])
def adrT (a : Adr) : List UInt8 := if a.fam = 4 then quadA4 a.ip 0 else if a.fam = 6 then colonT a else []
theorem phaseT_in {hs : List (List UInt8)} {f n i : Nat} (h1 : f < i) (h2 : i < f + n) : phaseT hs f n (i + 1) = phaseT hs f n i := by
 unfold phaseT
 rw [if_neg (show ¬ i + 1 ≤ f by omega), if_pos (show i + 1 ≤ f + n by omega), if_neg (show ¬ i ≤ f by omega), if_pos (show i ≤ f + n by omega)]
theorem phaseT_at {hs : List (List UInt8)} {f n : Nat} (h1 : 0 < n) : phaseT hs f n (f + 1) = phaseT hs f n f ++ [58, 58] := by
 unfold phaseT
 rw [if_neg (show ¬ f + 1 ≤ f by omega), if_pos (show f + 1 ≤ f + n by omega), if_pos (Nat.le_refl f)]
theorem phaseT_first {hs : List (List UInt8)} {f n : Nat} (h0 : 0 < hs.length) (h : f ≠ 0) : phaseT hs f n 1 = phaseT hs f n 0 ++ hs[0] := by
 unfold phaseT
 rw [if_pos (show 1 ≤ f by omega), if_pos (Nat.zero_le f), List.take_succ_eq_append_getElem h0]
 simp [joinC]
theorem phaseT_next {hs : List (List UInt8)} {f n i : Nat} (hi : i < hs.length) (h0 : 0 < i) (h : ¬ (f ≤ i ∧ i < f + n)) (h2 : i ≠ f + n) : phaseT hs f n (i + 1) = phaseT hs f n i ++ [58] ++ hs[i] := by
 unfold phaseT
 by_cases h1 : i < f
 ·
  rw [if_pos (show i + 1 ≤ f by omega), if_pos (show i ≤ f by omega), List.take_succ_eq_append_getElem hi, joinC_snoc, if_neg]
  ·
   simp
  ·
   intro e
   have := congrArg List.length e
   rw [List.length_take, List.length_nil] at this
   omega
 ·
  rw [if_neg (show ¬ i + 1 ≤ f by omega), if_neg (show ¬ i + 1 ≤ f + n by omega), if_neg (show ¬ i ≤ f by omega), if_neg (show ¬ i ≤ f + n by omega)]
  have hd : i - (f + n) < (hs.drop (f + n)).length := by rw [List.length_drop]; omega
  rw [show i + 1 - (f + n) = (i - (f + n)) + 1 by omega, List.take_succ_eq_append_getElem hd, joinC_snoc, if_neg]
  ·
   have e : (hs.drop (f + n))[i - (f + n)] = hs[i] := by
    rw [List.getElem_drop]; congr 1; omega
   rw [e]
   simp
  ·
   intro e
   have := congrArg List.length e
   rw [List.length_take, List.length_nil] at this
   omega
theorem phaseT_end {hs : List (List UInt8)} {f n : Nat} (hi : f + n < hs.length) (hn : 0 < n) : phaseT hs f n (f + n + 1) = phaseT hs f n (f + n) ++ hs[f + n] := by
 unfold phaseT
 rw [if_neg (show ¬ f + n + 1 ≤ f by omega), if_neg (show ¬ f + n + 1 ≤ f + n by omega), if_neg (show ¬ f + n ≤ f by omega), if_pos (Nat.le_refl (f + n))]
 have hd : 0 < (hs.drop (f + n)).length := by rw [List.length_drop]; omega
 rw [show f + n + 1 - (f + n) = 0 + 1 by omega, List.take_succ_eq_append_getElem hd]
 have e : (hs.drop (f + n))[0] = hs[f + n] := by rw [List.getElem_drop]; rfl
 rw [e]
 simp [joinC]
def natsG (ip : List UInt8) : List Nat := (List.range 8).map (grp ip)
theorem natsG_len (ip : List UInt8) : (natsG ip).length = 8 := by simp [natsG]
theorem natsG_hex (ip : List UInt8) : (natsG ip).map hexN = hexG ip := by simp [natsG, hexG]
theorem natsG_at (ip : List UInt8) {i : Nat} (h : i < 8) : (natsG ip)[i]'(by rw [natsG_len]; exact h) = grp ip i := by simp [natsG]
theorem natsG_lt (ip : List UInt8) : ∀ n ∈ natsG ip, n < 65536 := by
 intro n hn
 obtain ⟨i, _, rfl⟩ := List.mem_map.1 hn
 exact grp_lt ip i
theorem empty5 : ∀ a b c d e f g h : Bool, emptyZ [a, b, c, d, e, f, g, h] 0 5 = (a && b && c && d && e) := by decide +kernel
theorem mapG_no {ip : List UInt8} (h : grp ip 5 ≠ 65535) : mapG ip = false := by
 unfold mapG
 rw [decide_eq_false h, Bool.and_false]
theorem mapG_yes {ip : List UInt8} (h : grp ip 5 = 65535) : mapG ip = (decide ((rowP (zerosG ip)).1 = 0) && decide ((rowP (zerosG ip)).2 = 5)) := by
 unfold mapG
 rw [decide_eq_true h, Bool.and_true, zerosG_eq]
 have h5 : decide (grp ip 5 = 0) = false := decide_eq_false (by omega)
 rw [h5, empty5, row_map]
theorem rowR_zeros (ip : List UInt8) : rowR (zerosG ip) = if (rowP (zerosG ip)).2 < 2 then (8, 0) else rowP (zerosG ip) := by rw [zerosG_eq]; exact rowR_eq ..
theorem rowP_zeros (ip : List UInt8) : (rowP (zerosG ip)).1 + (rowP (zerosG ip)).2 ≤ 8 := by rw [zerosG_eq]; exact rowP_ok ..
theorem hexG_len (ip : List UInt8) : (hexG ip).length = 8 := by simp [hexG]
theorem bareT_map {ip : List UInt8} (h : mapG ip = true) : bareT ip = [58, 58, 102, 102, 102, 102, 58] ++ quadA4 ip 12 := by unfold bareT; rw [if_pos h]
theorem bareT_all {ip : List UInt8} (h : ¬ mapG ip = true) (h2 : (rowP (zerosG ip)).2 < 2) : bareT ip = joinC 58 (hexG ip) := by
 unfold bareT
 rw [if_neg h, rowR_zeros, if_pos h2]
 unfold phaseT
 rw [if_pos (Nat.le_refl 8), List.take_of_length_le (by rw [hexG_len]; exact Nat.le_refl 8)]
theorem bareT_two {ip : List UInt8} (h : ¬ mapG ip = true) (h2 : ¬ (rowP (zerosG ip)).2 < 2) : bareT ip = joinC 58 ((hexG ip).take (rowP (zerosG ip)).1) ++ [58, 58] ++ joinC 58 ((hexG ip).drop ((rowP (zerosG ip)).1 + (rowP (zerosG ip)).2)) := by
 have hok := rowP_zeros ip
 unfold bareT
 rw [if_neg h, rowR_zeros, if_neg h2]
 generalize rowP (zerosG ip) = P at *
 have hl := hexG_len ip
 generalize hexG ip = hs at *
 unfold phaseT
 rw [if_neg (show ¬ 8 ≤ P.1 by omega)]
 by_cases h8 : 8 ≤ P.1 + P.2
 ·
  rw [if_pos h8, List.drop_of_length_le (by omega)]
  simp [joinC]
 ·
  rw [if_neg h8]
  rw [List.take_of_length_le (l := hs.drop (P.1 + P.2)) (by rw [List.length_drop]; omega)]
def codeL : List (List UInt8) := [[111, 107], [97, 103, 97, 105, 110], [102, 97, 105, 108], [110, 111, 110, 97, 109, 101], [110, 111, 100, 97, 116, 97], [102, 97, 109, 105, 108, 121], [115, 101, 114, 118, 105, 99, 101], [115, 111, 99, 107, 116, 121, 112, 101], [98, 97, 100, 102, 108, 97, 103, 115], [111, 118, 101, 114, 102, 108, 111, 119], [112, 101, 110, 100, 105, 110, 103]]
def kindL : List (List UInt8) := [[115, 116, 114, 101, 97, 109], [100, 103, 114, 97, 109]]
def wordT (ls : List (List UInt8)) (f n : Int) : List UInt8 := if f ≤ n ∧ n < f + ls.length then ls.getD (n - f).toNat [] else Lib.itoa n
def lineQ (nm s : List UInt8) : List UInt8 := if s = [] then [] else nm ++ [32] ++ quoL s ++ [10]
def I64 (n : Int) : Prop := -9223372036854775808 ≤ n ∧ n ≤ 9223372036854775807
structure Inf where
 a : Adr
 port : Int
 sock : Int
def infC (x : Inf) : List Value := x.a.cells ++ [.int .i64 x.port, .int .i64 x.sock]
def InfI (cs : List Value) (x : Inf) : Prop := cs = infC x ∧ x.a.ip.length = 16 ∧ I64 x.a.zone ∧ I64 x.port ∧ I64 x.sock
theorem infC_len {x : Inf} (h : x.a.ip.length = 16) : (infC x).length = 20 := by unfold infC; rw [List.length_append, x.a.cells_len h]; rfl
theorem infC_18 {x : Inf} (h : x.a.ip.length = 16) : (infC x)[18]? = some (.int .i64 x.port) := by unfold infC; rw [List.getElem?_append_right (by rw [x.a.cells_len h]; omega), x.a.cells_len h]; rfl
theorem infC_19 {x : Inf} (h : x.a.ip.length = 16) : (infC x)[19]? = some (.int .i64 x.sock) := by unfold infC; rw [List.getElem?_append_right (by rw [x.a.cells_len h]; omega), x.a.cells_len h]; rfl
theorem infC_ad {x : Inf} (h : x.a.ip.length = 16) : ((infC x).drop 0).take 18 = x.a.cells := by unfold infC; rw [List.drop_zero]; exact List.take_left' (x.a.cells_len h)
theorem infC_one (x : Inf) : ∀ v ∈ infC x, v.oneCell' = true := by
 intro v hv
 rcases List.mem_append.1 hv with hv | hv
 ·
  exact x.a.cells_one v hv
 ·
  simp at hv; rcases hv with rfl | rfl <;> rfl
def infL (x : Inf) : List (List UInt8) := [[97, 100, 100, 114], adrT x.a, Lib.itoa x.port, wordT kindL 1 x.sock]
def infT (x : Inf) : List UInt8 := joinC 32 (infL x) ++ [10]
def rrL (r : RR) : List (List UInt8) := [[116, 97, 114, 103, 101, 116], nameT r.name, Lib.itoa r.ttl, Lib.itoa r.pri, Lib.itoa r.we, Lib.itoa r.po, nameT r.tg]
def rrT (r : RR) : List UInt8 := joinC 32 (rrL r) ++ [10]
def RRb (r : RR) : Prop := I64 r.ttl ∧ I64 r.pri ∧ I64 r.we ∧ I64 r.po
def RRs4 (r : RR) : Prop := RRb r ∧ lsum r.name ≤ 400 ∧ lsum r.tg ≤ 400
structure Rz where
 code : Int
 infos : List Inf
 canon : List UInt8
 host : List UInt8
 serv : List UInt8
 recs : List RR
def rzC (vi vr : Value) (R : Rz) : List Value := [.int .i64 R.code, vi, .string (bs R.canon), .string (bs R.host), .string (bs R.serv), vr]
def headT (R : Rz) : List UInt8 := [99, 111, 100, 101, 32] ++ wordT codeL 0 R.code ++ [10]
def rzT (R : Rz) : List UInt8 := headT R ++ lineQ [99, 97, 110, 111, 110] R.canon ++ lineQ [104, 111, 115, 116] R.host ++ lineQ [115, 101, 114, 118, 105, 99, 101] R.serv ++ R.infos.flatMap infT ++ R.recs.flatMap rrT
theorem fm_next {α : Type} (f : α → List UInt8) {l : List α} {k : Nat} (h : k < l.length) : (l.take (k + 1)).flatMap f = (l.take k).flatMap f ++ f l[k] := by rw [List.take_succ_eq_append_getElem h, List.flatMap_append]; simp
theorem fm_len {α : Type} (f : α → List UInt8) (m : Nat) : ∀ (l : List α), (∀ x ∈ l, (f x).length ≤ m) → (l.flatMap f).length ≤ m * l.length := by
 intro l
 induction l with
 | nil => intro _; simp
 | cons x l ih =>
  intro h
  have h1 := h x (List.mem_cons_self ..)
  have h2 := ih (fun y hy => h y (List.mem_cons_of_mem _ hy))
  rw [List.flatMap_cons, List.length_append, List.length_cons, Nat.mul_add]
  omega
theorem fm_take {α : Type} (f : α → List UInt8) (m : Nat) (l : List α) (h : ∀ x ∈ l, (f x).length ≤ m) (k : Nat) : ((l.take k).flatMap f).length ≤ m * l.length :=
 Nat.le_trans (fm_len f m (l.take k) (fun x hx => h x (List.mem_of_mem_take hx))) (Nat.mul_le_mul_left m (by simp; omega))
def blankB (c : UInt8) : Bool := c == 32 || c == 9
def nbB (c : UInt8) : Bool := !blankB c
def fieldsF : Nat → List UInt8 → List (List UInt8)
 | 0, _ => []
 | f + 1, s => if s = [] then [] else if blankB (s.headD 0) = true then fieldsF f (s.drop 1) else s.takeWhile nbB :: fieldsF f (s.drop (s.takeWhile nbB).length)
def fieldsT (s : List UInt8) : List (List UInt8) := fieldsF (s.length + 1) s
theorem fields_nil (f : Nat) : fieldsF f [] = [] := by cases f <;> simp [fieldsF]
theorem fields_blank {f : Nat} {s : List UInt8} (h : 0 < s.length) (hb : blankB s[0] = true) : fieldsF (f + 1) s = fieldsF f (s.drop 1) := by
 cases s with
 | nil => simp at h
 | cons c s =>
  have hb' : blankB c = true := hb
  simp [fieldsF, hb']
theorem fields_word {f : Nat} {s : List UInt8} (h : 0 < s.length) (hb : blankB s[0] = false) : fieldsF (f + 1) s = s.takeWhile nbB :: fieldsF f (s.drop (s.takeWhile nbB).length) := by
 cases s with
 | nil => simp at h
 | cons c s =>
  have hb' : blankB c = false := hb
  simp [fieldsF, hb']
theorem tw_le (s : List UInt8) : (s.takeWhile nbB).length ≤ s.length := (List.takeWhile_prefix _).length_le
theorem tw_pos {s : List UInt8} (h : 0 < s.length) (hb : blankB s[0] = false) : 0 < (s.takeWhile nbB).length := by
 cases s with
 | nil => simp at h
 | cons c s =>
  have hb' : blankB c = false := hb
  simp [List.takeWhile_cons, nbB, hb']
theorem tw_in : ∀ (s : List UInt8) (j : Nat) (h : j < (s.takeWhile nbB).length) (h2 : j < s.length), blankB s[j] = false := by
 intro s
 induction s with
 | nil => intro j h; simp at h
 | cons c s ih =>
  intro j h h2
  rw [List.takeWhile_cons] at h
  split at h
  ·
   rename_i hc
   cases j with
   | zero => simpa [nbB] using hc
   | succ j => exact ih j (by simpa using h) (by simpa using h2)
  ·
   simp at h
theorem tw_end : ∀ (s : List UInt8) (h : (s.takeWhile nbB).length < s.length), blankB s[(s.takeWhile nbB).length] = true := by
 intro s
 induction s with
 | nil => intro h; simp at h
 | cons c s ih =>
  intro h
  by_cases hc : nbB c = true
  ·
   have e : (c :: s).takeWhile nbB = c :: s.takeWhile nbB := by rw [List.takeWhile_cons, if_pos hc]
   simp only [e, List.length_cons] at h ⊢
   exact ih (by omega)
  ·
   have e : (c :: s).takeWhile nbB = [] := by rw [List.takeWhile_cons, if_neg hc]
   simp only [e, List.length_nil] at h ⊢
   simpa [nbB] using hc
theorem tw_take (s : List UInt8) : s.take (s.takeWhile nbB).length = s.takeWhile nbB := by
 have h := List.takeWhile_prefix (p := nbB) (l := s)
 exact (List.prefix_iff_eq_take.1 h).symm
end Go.Proofs.YtkcbffldncmbcaaGreatDoor
