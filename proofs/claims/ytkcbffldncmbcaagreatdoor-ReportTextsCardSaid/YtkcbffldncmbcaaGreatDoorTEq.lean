/-
  Layer 1: blank, Fields.
-/
import Derived.Test.YtkcbffldncmbcaaGreatDoorTy21q
namespace Go.Proofs.YtkcbffldncmbcaaGreatDoor
open _root_.Go.Proofs.Tryz
open Go.RowKit
set_option maxRecDepth 100000
set_option linter.unusedVariables false
set_option linter.unusedSimpArgs false
theorem blank_any (c : UInt8) (w : World) : Calls prog 54 #[.int .u8 (c.toNat : Int)] w (Ret (.bool (blankB c)) w) := by
 have key : ∀ d : UInt8, (c == d) = ((c.toNat : Int) == (d.toNat : Int)) := by
  intro d
  by_cases e : c = d
  ·
   subst e; rw [beq_self_eq_true, beq_self_eq_true]
  ·
   have : c.toNat ≠ d.toNat := fun h => e (UInt8.toNat_inj.1 h)
   have h2 : ¬ (c.toNat : Int) = (d.toNat : Int) := by omega
   rw [beq_eq_false_iff_ne.2 e, beq_eq_false_iff_ne.2 h2]
 have k1 : blankB c = (((c.toNat : Int) == 32) || ((c.toNat : Int) == 9)) := by unfold blankB; rw [key 32, key 9]; rfl
 rw [k1]
 by_cases h1 : (c.toNat : Int) = 32
 case pos =>
  have e1 : ((c.toNat : Int) == 32) = true := by simpa using h1
  rw [e1]
  clear k1 key
  go_enter func54, ntmps54
  go_wp2_with fail
  go_ret
  exact ⟨rfl, rfl⟩
 have e1 : ((c.toNat : Int) == 32) = false := by simpa using h1
 rw [e1]
 clear k1 key h1
 go_enter func54, ntmps54
 go_wp2_with fail
 go_ret
 exact ⟨by simp, rfl⟩
def TxOwn (w : World) (B : Nat) (v : Value) (ls : List (List UInt8)) : Prop := w.ownsRow B 9 1 v ls.length (strs ls)
theorem TxOwn.txts {w : World} {B : Nat} {v : Value} {ls : List (List UInt8)} (h : TxOwn w B v ls) : Txts w v ls := ⟨h.1, h.2.imp id (fun ⟨g, cap, cur, h1, _, h3⟩ => ⟨g, cap, cur, h1, Nat.zero_le _, h3⟩)⟩
def FldRet (ls : List (List UInt8)) (w : World) (e : Ending) (w' : World) : Prop := ∃ v, e = .returned v ∧ Txts w' v ls ∧ Below w.heap.size w w'
theorem strs_snoc (l : List (List UInt8)) (t : List UInt8) : strs (l ++ [t]) = strs l ++ [.string (bs t)] := by simp [strs]
set_option maxHeartbeats 2000000 in
theorem fields_any (s : List UInt8) (hs : s.length ≤ 1000000) (w : World) : Calls prog 38 #[.string (bs s)] w (FldRet (fieldsT s) w) := by
 obtain ⟨R, hR⟩ : ∃ R, Hid (fieldsT s = R) := ⟨_, Hh rfl⟩
 rw [hR.out]
 have BL := Hh (fun c V => blank_any c V)
 go_enter func38, ntmps38
 go_wp2_with fail
 go_loopw [3, 4] (fun v iv wr => ∃ (k f : Nat) (acc : List (List UInt8)), k ≤ s.length ∧ iv = .int .i64 k ∧ acc.length ≤ k ∧ TxOwn wr w.heap.size v acc ∧ s.length - k < f ∧ Hid (acc ++ fieldsF f (s.drop k) = R) ∧ Below w.heap.size w wr) (fun _ iv _ => s.length - (intOf iv).toNat)
 case atStart => exact ⟨0, s.length + 1, [], Nat.zero_le _, rfl, Nat.zero_le _, World.ownsRow_nil _ _ _ _, by omega, Hh hR.out, Below.refl _ _⟩
 clear hR
 obtain ⟨k, f, acc, hk, rfl, ha, hb, hf, HR, S⟩ := hrel
 obtain ⟨A', c', hv⟩ := own_form hb
 subst hv
 by_cases hlt : k < s.length
 case pos =>
  have hlt' : (k : Int) < s.length := by omega
  have hdl : (s.drop k).length = s.length - k := List.length_drop ..
  have hd0 : (s.drop k)[0]'(by omega) = s[k] := by simp
  have hd : ∀ j (h : j < (s.drop k).length) (h2 : k + j < s.length), (s.drop k)[j] = s[k + j] := fun j h h2 => by simp
  obtain ⟨f, rfl⟩ : ∃ f', f = f' + 1 := ⟨f - 1, by omega⟩
  obtain ⟨b0, hb0⟩ : ∃ b0, Hid (blankB s[k] = b0) := ⟨_, Hh rfl⟩
  have B0 := Hh (BL.out s[k])
  rw [hb0.out] at B0
  cases b0 with
  | true =>
   have HN : Hid (acc ++ fieldsF f (s.drop (k + 1)) = R) := Hh (by
    rw [← HR.out, fields_blank (by omega) (by rw [hd0]; exact hb0.out), List.drop_drop])
   clear HR BL hd0 hd hb0
   go_wp2_with fail
   refine (B0.out _).mono ?_
   rintro _ _ ⟨rfl, rfl⟩
   clear B0
   go_wp2_with fail
   go_roundw
   case rel => exact ⟨k + 1, f, acc, by omega, by go_num, by omega, hb, by omega, HN, S⟩
   case measure => simp [intOf]; omega
  | false =>
   have hwb : blankB ((s.drop k)[0]'(by omega)) = false := by rw [hd0]; exact hb0.out
   have hn0 := tw_pos (by omega) hwb
   have hnl := tw_le (s.drop k)
   have TI := Hh (fun j h h2 h3 => (hd j h2 h3) ▸ tw_in (s.drop k) j h h2)
   have TE := Hh (fun (h : ((s.drop k).takeWhile nbB).length < (s.drop k).length) (h3 : k + ((s.drop k).takeWhile nbB).length < s.length) => (hd _ h h3) ▸ tw_end (s.drop k) h)
   have HN : Hid ((acc ++ [(s.drop k).takeWhile nbB]) ++ fieldsF f (s.drop (k + ((s.drop k).takeWhile nbB).length)) = R) := Hh (by
    rw [← HR.out, fields_word (by omega) hwb, List.drop_drop, List.append_assoc]; rfl)
   have HTK := Hh (tw_take (s.drop k))
   generalize (s.drop k).takeWhile nbB = wd at *
   generalize hN : wd.length = n at *
   clear hwb hd hd0 hb0 HR
   have HSl : Hid ((s.take (k + n)).drop k = wd) := Hh (by rw [List.drop_take, show k + n - k = n by omega]; exact HTK.out)
   clear HTK
   have hkn : k + n ≤ s.length := by omega
   go_wp2_with fail
   refine (B0.out _).mono ?_
   rintro _ _ ⟨rfl, rfl⟩
   clear B0
   go_wp2_with fail
   go_loopw [5] (fun ev wx => ∃ e : Nat, k ≤ e ∧ e ≤ k + n ∧ ev = .int .i64 e ∧ wx = wr) (fun ev _ => s.length - (intOf ev).toNat)
   case atStart => exact ⟨k, Nat.le_refl _, by omega, rfl, rfl⟩
   obtain ⟨e, he1, he2, rfl, hwx⟩ := hrel
   subst hwx
   by_cases hen : e < k + n
   case pos =>
    have hes : e < s.length := by omega
    have hes' : (e : Int) < s.length := by omega
    have B1 := Hh (BL.out s[e])
    have hbl : Hid (blankB s[e] = false) := Hh (by
     obtain ⟨j, rfl⟩ : ∃ j, e = k + j := ⟨e - k, by omega⟩
     exact TI.out j (by omega) (by omega) (by omega))
    rw [hbl.out] at B1
    clear TI TE HN hbl HSl hb
    go_wp2_with fail
    refine (B1.out _).mono ?_
    rintro _ _ ⟨rfl, rfl⟩
    clear B1
    go_wp2_with fail
    exact ⟨⟨e + 1, by omega, by omega, by go_num, trivial⟩, by simp [intOf]; omega⟩
   obtain rfl : e = k + n := by omega
   have hsl1 : (k : Int) ≤ (k : Int) + n := by omega
   by_cases hes : k + n < s.length
   case pos =>
    have hes' : ((k + n : Nat) : Int) < s.length := by omega
    have B1 := Hh (BL.out s[k + n])
    rw [TE.out (by omega) hes] at B1
    clear TI TE
    go_wp2_with fail
    refine (B1.out _).mono ?_
    rintro _ _ ⟨rfl, rfl⟩
    clear B1
    go_wp2_with (at_builtin; go_must (refine wpList_appB _ rfl (.tmp 30) (.tmp 35) 41 rfl 9 (.string ⟨#[]⟩) 1 16 underlying41 strInfo rfl (by decide) w.heap.size _ acc.length _ rfl (World.ownsRow.alloc (show World.ownsRow _ _ _ _ _ _ _ from hb) _) (by have := S.size; simp; omega) _ 1 1 [_] rfl rfl (new_one _ _ _ _ rfl) (one_cell1 rfl) (by decide) (by simp only [maxLen]; omega) (by omega) ?_))
    intro g2 cap2 w2 hb2 hgr2 hlt2
    have S2 := below_own (S.alloc S.size _) (by have := S.size; simp; omega) (World.ownsRow.alloc (show World.ownsRow _ _ _ _ _ _ _ from hb) _) hgr2
    have hb3 : TxOwn w2 w.heap.size (.slice (some ⟨g2, 0, none⟩) (acc.length + 1) cap2) (acc ++ [wd]) := by
     unfold TxOwn
     rw [strs_snoc, List.length_append, ← HSl.out]
     exact hb2
    clear hb hb2 hgr2 S
    go_wp2_with fail
    go_roundw
    case rel => exact ⟨k + n, f, acc ++ [wd], by omega, by go_num, by simp; omega, hb3, by omega, HN, S2⟩
    case measure => simp [intOf]; omega
   have hes' : ¬ ((k + n : Nat) : Int) < s.length := by omega
   clear TI TE
   go_wp2_with (at_builtin; go_must (refine wpList_appB _ rfl (.tmp 30) (.tmp 35) 41 rfl 9 (.string ⟨#[]⟩) 1 16 underlying41 strInfo rfl (by decide) w.heap.size _ acc.length _ rfl (World.ownsRow.alloc (show World.ownsRow _ _ _ _ _ _ _ from hb) _) (by have := S.size; simp; omega) _ 1 1 [_] rfl rfl (new_one _ _ _ _ rfl) (one_cell1 rfl) (by decide) (by simp only [maxLen]; omega) (by omega) ?_))
   intro g2 cap2 w2 hb2 hgr2 hlt2
   have S2 := below_own (S.alloc S.size _) (by have := S.size; simp; omega) (World.ownsRow.alloc (show World.ownsRow _ _ _ _ _ _ _ from hb) _) hgr2
   have hb3 : TxOwn w2 w.heap.size (.slice (some ⟨g2, 0, none⟩) (acc.length + 1) cap2) (acc ++ [wd]) := by
    unfold TxOwn
    rw [strs_snoc, List.length_append, ← HSl.out]
    exact hb2
   clear hb hb2 hgr2 S
   go_wp2_with fail
   go_roundw
   case rel => exact ⟨k + n, f, acc ++ [wd], by omega, by go_num, by simp; omega, hb3, by omega, HN, S2⟩
   case measure => simp [intOf]; omega
 obtain rfl : k = s.length := by omega
 have hlt' : ¬ (s.length : Int) < s.length := by omega
 have hRa : acc = R := by
  have := HR.out
  rw [List.drop_length, fields_nil, List.append_nil] at this
  exact this
 subst hRa
 have HT := Hh (TxOwn.txts hb)
 clear hb BL HR
 go_wp2_with fail
 go_ret
 exact ⟨_, rfl, HT.out, S⟩
def valD (s : List UInt8) : Nat := s.foldl (fun n c => n * 10 + (c.toNat - 48)) 0
def digs (s : List UInt8) : Prop := ∀ c ∈ s, 48 ≤ c.toNat ∧ c.toNat ≤ 57
theorem valD_next {s : List UInt8} {k : Nat} (h : k < s.length) : valD (s.take (k + 1)) = valD (s.take k) * 10 + (s[k].toNat - 48) := by
 unfold valD
 rw [List.take_succ_eq_append_getElem h, List.foldl_append]
 rfl
theorem valD_mono (s : List UInt8) : ∀ (j k : Nat), k + j = s.length → valD (s.take k) ≤ valD s := by
 intro j
 induction j with
 | zero => intro k h; rw [List.take_of_length_le (by omega)]; exact Nat.le_refl _
 | succ j ih =>
  intro k h
  have h1 := ih (k + 1) (by omega)
  have h2 := valD_next (s := s) (k := k) (by omega)
  omega
set_option maxHeartbeats 2000000 in
theorem num_any (s : List UInt8) (m : Nat) (hs : 0 < s.length) (hl : s.length ≤ 1000000) (hd : digs s) (hm : m ≤ 9223372036854775807) (hv : valD s ≤ m) (w : World) : Calls prog 73 #[.string (bs s), .int .i64 m] w (Ret (.tuple #[.int .i64 (valD s : Int), .int .i64 0]) w) := by
 have hne : s ≠ [] := List.length_pos_iff.1 hs
 have e1 : (s == []) = false := by simpa using hne
 have e2 : s.isEmpty = false := by simpa using hne
 have HD := Hh (fun k (h : k < s.length) => hd s[k] (List.getElem_mem h))
 have VN := Hh (fun k (h : k < s.length) => valD_next (s := s) (k := k) h)
 have VM := Hh (fun k (h : k ≤ s.length) => Nat.le_trans (valD_mono s (s.length - k) k (by omega)) hv)
 obtain ⟨R, hR⟩ : ∃ R, Hid (valD s = R) := ⟨_, Hh rfl⟩
 rw [hR.out]
 clear hd hne
 go_enter func73, ntmps73
 go_wp2_with fail
 go_loopw [14] (fun iv wr => ∃ k : Nat, k ≤ s.length ∧ iv = .int .i64 k ∧ wr = w) (fun iv _ => s.length - (intOf iv).toNat)
 case atStart => exact ⟨0, Nat.zero_le _, rfl, rfl⟩
 obtain ⟨k, hk, rfl, hwr⟩ := hrel
 subst hwr
 by_cases hlt : k < s.length
 case pos =>
  have hlt' : (k : Int) < s.length := by omega
  obtain ⟨d1, d2⟩ := HD.out k hlt
  have c1 : ¬ (s[k].toNat : Int) < 48 := by omega
  have c2 : ¬ (57 : Int) < s[k].toNat := by omega
  clear HD VN VM d1 d2 hR
  go_wp2_with fail
  go_roundw
  case rel => exact ⟨k + 1, by omega, by go_num, trivial⟩
  case measure => simp [intOf]; omega
 obtain rfl : k = s.length := by omega
 have hlt' : ¬ (s.length : Int) < s.length := by omega
 go_wp2_with fail
 clear hlt hk hlt'
 go_loopw [7, 30] (fun nv iv wx => ∃ k : Nat, k ≤ s.length ∧ iv = .int .i64 k ∧ nv = .int .i64 (valD (s.take k) : Int) ∧ wx = wr) (fun _ iv _ => s.length - (intOf iv).toNat)
 case atStart => exact ⟨0, Nat.zero_le _, rfl, rfl, rfl⟩
 obtain ⟨k, hk, rfl, rfl, hwr⟩ := hrel
 subst hwr
 by_cases hlt : k < s.length
 case pos =>
  have hlt' : (k : Int) < s.length := by omega
  obtain ⟨d1, d2⟩ := HD.out k hlt
  have v1 := VN.out k hlt
  have v2 := VM.out (k + 1) (by omega)
  obtain ⟨c, hc⟩ : ∃ c, Hid (s[k] = c) := ⟨_, Hh rfl⟩
  have hgc : ∀ h, s[k]'h = c := fun _ => hc.out
  rw [hc.out] at d1 d2 v1
  obtain ⟨d, hd⟩ : ∃ d : Nat, c.toNat = 48 + d := ⟨c.toNat - 48, by omega⟩
  rw [hd] at d1 d2 v1
  have hcd : IntKind.u8.wrap ((c.toNat : Int) - 48) = d := by rw [IntKind.wrap_u8]; omega
  have e3 : (c.toNat : Int) - 48 = d := by omega
  generalize hV : valD (s.take (k + 1)) = V at *
  generalize valD (s.take k) = n at *
  have q1 : ¬ (m : Int) < d := by omega
  have q2 : ¬ ((m : Int) - d) / 10 < n := by omega
  have q3 : (10 : Int) * n + d = V := by omega
  have q5 : IntKind.i64.wrap ((10 : Int) * n + d) = V := by rw [q3]; exact IntWalk.i64_in _ (by omega)
  have q6 : IntKind.i64.wrap ((10 : Int) * n) = 10 * n := IntWalk.i64_in _ (by omega)
  clear q3
  have h9 : d ≤ 9 := by omega
  clear HD VN VM hR d1 d2 hd
  go_wp2_with fail
  go_roundw
  case rel => exact ⟨k + 1, by omega, by go_num, by rw [hV]; first | rfl | go_num, trivial⟩
  case measure => simp [intOf]; omega
 obtain rfl : k = s.length := by omega
 have hlt' : ¬ (s.length : Int) < s.length := by omega
 rw [List.take_of_length_le (Nat.le_refl _), hR.out]
 clear HD VN VM hR
 go_wp2_with fail
 go_ret2
 exact ⟨rfl, rfl⟩
theorem ixb_no : ∀ {s : List UInt8} {c : UInt8} (h : c ∉ s), Lib.indexByte s c = -1 := by
 intro s c
 induction s with
 | nil => intro _; rfl
 | cons b s ih =>
  intro h
  have h1 : (b == c) = false := beq_eq_false_iff_ne.2 (fun e => h (by rw [e]; exact List.mem_cons_self ..))
  have h2 := ih (fun e => h (List.mem_cons_of_mem _ e))
  simp [Lib.indexByte, h1, h2]
theorem ixb_yes : ∀ {h t : List UInt8} {c : UInt8} (hh : c ∉ h), Lib.indexByte (h ++ c :: t) c = h.length := by
 intro h t c
 induction h with
 | nil => intro _; simp [Lib.indexByte]
 | cons b s ih =>
  intro hh
  have h1 : (b == c) = false := beq_eq_false_iff_ne.2 (fun e => hh (by rw [e]; exact List.mem_cons_self ..))
  have h2 := ih (fun e => hh (List.mem_cons_of_mem _ e))
  have h3 : ¬ ((s.length : Int) = -1) := by omega
  rw [List.cons_append]
  simp [Lib.indexByte, h1, h2, h3]
theorem cutNo_any (s : List UInt8) (c : UInt8) (h : c ∉ s) (w : World) : Calls prog 101 #[.string (bs s), .int .u8 (c.toNat : Int)] w (Ret (.tuple #[.string (bs s), .string (bs []), .bool false]) w) := by
 have IX := Hh (Tryz.strings_IndexByte (bs s) (c.toNat : Int) w)
 have e : Lib.indexByte (bs s).data.toList (c.toNat : Int).toNat.toUInt8 = -1 := by
  have : (c.toNat : Int).toNat.toUInt8 = c := by simp
  rw [this]
  exact ixb_no h
 rw [e] at IX
 clear e h
 go_enter func101, ntmps101
 go_wp2_with fail
 refine IX.out.mono ?_
 rintro _ _ ⟨rfl, rfl⟩
 go_wp2_with fail
 go_ret3
 exact ⟨rfl, rfl⟩
theorem cutYes_any (h t : List UInt8) (c : UInt8) (hh : c ∉ h) (hl : h.length ≤ 1000000) (w : World) : Calls prog 101 #[.string (bs (h ++ c :: t)), .int .u8 (c.toNat : Int)] w (RetB (.tuple #[.string (bs h), .string (bs t), .bool true]) w) := by
 have IX := Hh (Tryz.strings_IndexByte (bs (h ++ c :: t)) (c.toNat : Int) w)
 have e : Lib.indexByte (bs (h ++ c :: t)).data.toList (c.toNat : Int).toNat.toUInt8 = h.length := by
  have : (c.toNat : Int).toNat.toUInt8 = c := by simp
  rw [this]
  exact ixb_yes hh
 rw [e] at IX
 have ht : (h ++ c :: t).take h.length = h := by simp
 have hd : (h ++ c :: t).drop (h.length + 1) = t := by simp [List.drop_append]
 have hsl : (h.length : Int) ≤ ((h ++ c :: t).length : Int) := by simp; omega
 have hsl2 : (h.length : Int) + 1 ≤ ((h ++ c :: t).length : Int) := by simp; omega
 generalize hS : h ++ c :: t = s at *
 have hn : (h.length : Int) ≤ 1000000 := by omega
 clear e hh hS
 go_enter func101, ntmps101
 go_wp2_with fail
 refine IX.out.mono ?_
 rintro _ w1 ⟨rfl, rfl⟩
 clear IX
 generalize hN : h.length = n at *
 go_wp2_with fail
 refine wp_region_held_drew (S := fun V => Below w1.heap.size w1 V) (by kernel_rfl) (Below.refl _ _).drew (fun hS => ?_)
 refine held_seq hS 10 [0,1,2,3,4,5,6,7,8,9] rfl (by kernel_rfl) (fun _ _ _ _ _ h => h) rfl rfl ?_
 (refine ⟨_, (.string (bs s)), rfl, .inl ⟨rfl, fun V hV => rfl⟩, ?_⟩; simp only [Act.put, lsA, lsB, lsC])
 (refine ⟨_, (.int .i64 n), rfl, .inl ⟨rfl, fun V hV => rfl⟩, ?_⟩; simp only [Act.put, lsA, lsB, lsC])
 (refine ⟨_, (.string (bs h)), rfl, .inl ⟨rfl, fun V hV => (by go_simp)⟩, ?_⟩; simp only [Act.put, lsA, lsB, lsC])
 (refine ⟨_, (.string (bs s)), rfl, .inl ⟨rfl, fun V hV => rfl⟩, ?_⟩; simp only [Act.put, lsA, lsB, lsC])
 (refine ⟨_, (.int .i64 n), rfl, .inl ⟨rfl, fun V hV => rfl⟩, ?_⟩; simp only [Act.put, lsA, lsB, lsC])
 (refine ⟨_, (.int .i64 ((n : Int) + 1)), rfl, .inl ⟨rfl, fun V hV => (by go_simp; exact IntWalk.i64_in _ (by omega))⟩, ?_⟩; simp only [Act.put, lsA, lsB, lsC])
 (refine ⟨_, (.string (bs t)), rfl, .inl ⟨rfl, fun V hV => (by go_simp; intro hneg; exfalso; omega)⟩, ?_⟩; simp only [Act.put, lsA, lsB, lsC])
 (refine ⟨_, (.string (bs h)), rfl, .inl ⟨rfl, fun V hV => rfl⟩, ?_⟩; simp only [Act.put, lsA, lsB, lsC])
 (refine ⟨_, (.string (bs t)), rfl, .inl ⟨rfl, fun V hV => rfl⟩, ?_⟩; simp only [Act.put, lsA, lsB, lsC])
 (refine ⟨_, (.bool true), rfl, .inl ⟨rfl, fun V hV => rfl⟩, ?_⟩; simp only [Act.put, lsA, lsB, lsC])
 simp only [SeqC]
 refine wpAnyH_done (by kernel_rfl) ?_ _
 go_wp2_with fail
 go_ret3
 exact RetB.mk rfl hS
theorem valD_snoc (l : List UInt8) (c : UInt8) : valD (l ++ [c]) = valD l * 10 + (c.toNat - 48) := by
 unfold valD
 rw [List.foldl_append]
 rfl
theorem dec_val (m : Nat) : valD (Lib.decDigits m) = m ∧ digs (Lib.decDigits m) := by
 induction m using Nat.strongRecOn with
 | ind m ih =>
  by_cases h : m < 10
  ·
   rw [Lib.decDigits_one h]
   have hb : (UInt8.ofNat (48 + m)).toNat = 48 + m := by rw [UInt8.toNat_ofNat']; omega
   refine ⟨?_, fun c hc => ?_⟩
   ·
    show 0 * 10 + ((UInt8.ofNat (48 + m)).toNat - 48) = m
    rw [hb]; omega
   ·
    rw [List.mem_singleton] at hc
    rw [hc, hb]; omega
  ·
   have e : Lib.decDigits m = Lib.decDigits (m / 10) ++ [UInt8.ofNat (48 + m % 10)] := by rw [Lib.decDigits, dif_neg h]
   have hb : (UInt8.ofNat (48 + m % 10)).toNat = 48 + m % 10 := by rw [UInt8.toNat_ofNat']; omega
   obtain ⟨i1, i2⟩ := ih (m / 10) (by omega)
   rw [e]
   refine ⟨?_, fun c hc => ?_⟩
   ·
    rw [valD_snoc, i1, hb]; omega
   ·
    rcases List.mem_append.1 hc with hc | hc
    ·
     exact i2 c hc
    ·
     rw [List.mem_singleton] at hc
     rw [hc, hb]; omega
theorem itoa_nat (n : Nat) : Lib.itoa (n : Int) = Lib.decDigits n := by
 unfold Lib.itoa
 rw [if_neg (by omega)]
 rfl
theorem itoa_val (n : Nat) : valD (Lib.itoa (n : Int)) = n ∧ digs (Lib.itoa (n : Int)) := by rw [itoa_nat]; exact dec_val n
theorem itoa_pos (n : Nat) : 0 < (Lib.itoa (n : Int)).length := by
 rw [itoa_nat]
 by_cases h : n < 10
 ·
  rw [Lib.decDigits_one h]; simp
 ·
  rw [Lib.decDigits, dif_neg h]; simp
theorem digs_no {s : List UInt8} (h : digs s) {c : UInt8} (hc : c.toNat < 48 ∨ 57 < c.toNat) : c ∉ s := fun hm => by have := h c hm; omega
def restQ (xs : List Nat) (k : Nat) : List UInt8 := joinC 46 ((xs.drop k).map (fun n : Nat => Lib.itoa (n : Int)))
theorem restQ_next {xs : List Nat} {k : Nat} (h : k + 1 < xs.length) : restQ xs k = Lib.itoa (xs[k] : Int) ++ 46 :: restQ xs (k + 1) := by
 unfold restQ
 rw [List.drop_eq_getElem_cons (by omega), List.drop_eq_getElem_cons (l := xs) (i := k + 1) h]
 simp only [List.map_cons, joinC, List.flatMap_cons, List.cons_append]
theorem restQ_last {xs : List Nat} {k : Nat} (h : k + 1 = xs.length) : restQ xs k = Lib.itoa (xs[k] : Int) := by
 unfold restQ
 rw [List.drop_eq_getElem_cons (by omega), List.drop_of_length_le (by omega)]
 simp [joinC]
def qpC (xs : List Nat) (k : Nat) : List Value := .int .i64 4 :: ((xs.take k).map (fun n : Nat => Value.int .u8 (n : Int)) ++ List.replicate (16 - k) (.int .u8 0) ++ [.int .i64 0])
theorem qpC_len {xs : List Nat} (h : xs.length = 4) {k : Nat} (hk : k ≤ 4) : (qpC xs k).length = 18 := by
 simp [qpC, h]; omega
theorem qpC_next {xs : List Nat} (h : xs.length = 4) {k : Nat} (hk : k < 4) : (qpC xs k).set (1 + k) (.int .u8 ((xs[k]'(by omega) : Nat) : Int)) = qpC xs (k + 1) := by
 match xs, h, k, hk with
 | [a, b, c, d], _, 0, _ => rfl
 | [a, b, c, d], _, 1, _ => rfl
 | [a, b, c, d], _, 2, _ => rfl
 | [a, b, c, d], _, 3, _ => rfl
theorem qpC_4 (a b c d : UInt8) : qpC [a.toNat, b.toNat, c.toNat, d.toNat] 4 = (quadA a b c d).cells := rfl
theorem qpC_one (xs : List Nat) (k : Nat) : ∀ v ∈ qpC xs k, v.oneCell' = true := by
 intro v hv
 simp only [qpC, List.mem_cons, List.mem_append, List.mem_map, List.mem_replicate, List.not_mem_nil, or_false] at hv
 rcases hv with rfl | (⟨_, _, rfl⟩ | ⟨_, rfl⟩) | rfl <;> rfl
set_option maxHeartbeats 4000000 in
theorem quadParse_any (a b c d : UInt8) (w : World) (hT : Tb w) : Calls prog 88 #[.string (bs (quadT a.toNat b.toNat c.toNat d.toNat))] w (RetB (.tuple #[.agg (quadA a b c d).cells.toArray, .int .i64 0]) w) := by
 obtain ⟨xs, hxs⟩ : ∃ xs, Hid ([a.toNat, b.toNat, c.toNat, d.toNat] = xs) := ⟨_, Hh rfl⟩
 have hx4 : xs.length = 4 := by rw [← hxs.out]; rfl
 have hx8 : ∀ k (h : k < xs.length), xs[k] < 256 := by
  rw [← hxs.out]
  intro k h
  have := a.toNat_lt; have := b.toNat_lt; have := c.toNat_lt; have := d.toNat_lt
  match k, h with
  | 0, _ | 1, _ | 2, _ | 3, _ => simp; omega
 have HR0 : Hid (restQ xs 0 = quadT a.toNat b.toNat c.toNat d.toNat) := Hh (by rw [← hxs.out]; simp [restQ, joinC, quadT])
 have QT := Hh (fun V (hV : Below w.heap.size w V) => quadText_any (quadA a b c d) rfl V (hT.below hV))
 have H4 : Hid (qpC xs 4 = (quadA a b c d).cells) := Hh (by rw [← hxs.out]; exact qpC_4 a b c d)
 have HT4 : Hid (quadA4 (quadA a b c d).ip 0 = quadT a.toNat b.toNat c.toNat d.toNat) := Hh rfl
 rw [HT4.out] at QT
 generalize quadT a.toNat b.toNat c.toNat d.toNat = T at *
 generalize (quadA a b c d).cells = qc at *
 have HX8 := Hh hx8
 clear hx8 HT4 hxs
 go_enter func88, ntmps88
 have Z2 := Blk.newA w _ rfl
 have Z4 := Blk.newA (w.alloc (.cells adrZ.toArray 31)) (w.heap.size + 1) (by simp)
 have Z2' := Z2.alloc (.cells adrZ.toArray 31)
 have BB : Below w.heap.size w ((w.alloc (.cells adrZ.toArray 31)).alloc (.cells adrZ.toArray 31)) := ((Below.refl _ _).alloc (Nat.le_refl _) _).alloc (by simp) _
 go_wp2_with (refine at_op (.store 31 (.tmp 4) (.tmp 12)) rfl ?_; go_must (refine wpList_stB rfl _ _ _ rfl (w.heap.size + 1) 0 rfl (qpC [] 0) rfl Z4 (Nat.le_refl 18) adrInfo (qpC_one [] 0) ?_))
 intro w1 B1 g1 sw
 clear sw
 have X4 : Blk w1 (w.heap.size + 1) 31 (qpC xs 0) := blkAll B1 (Nat.le_refl _)
 have X2 : Blk w1 w.heap.size 31 adrZ := Z2'.grown g1 (by simp)
 have S1 : Below w.heap.size w w1 := below_grown BB g1 BB.size (by omega)
 clear B1 g1 Z2 Z4 Z2' BB
 obtain ⟨g, hg⟩ : ∃ g, Hid (w.heap.size + 1 = g) := ⟨_, Hh rfl⟩
 have hgw : w.heap.size < g := by have := hg.out; omega
 rw [hg.out] at X4 ⊢
 clear hg
 have hT0 : T = restQ xs 0 := HR0.out.symm
 go_wp2_with fail
 go_loopw [5, 14] (fun tv iv wr => ∃ (k : Nat) (t : List UInt8), k ≤ 4 ∧ iv = .int .i64 k ∧ tv = .string (bs t) ∧ Hid (k < 4 → t = restQ xs k) ∧ Blk wr g 31 (qpC xs k) ∧ Blk wr w.heap.size 31 adrZ ∧ Below w.heap.size w wr) (fun _ iv _ => 4 - (intOf iv).toNat)
 case atStart => exact ⟨0, _, by omega, rfl, by rw [hT0], Hh (fun _ => rfl), X4, X2, S1⟩
 clear X4 X2 S1 hT0
 obtain ⟨k, t, hk, rfl, rfl, HTR, X4, X2, S⟩ := hrel
 by_cases hlt : k < 4
 case pos =>
  obtain rfl : t = restQ xs k := HTR.out hlt
  have hlt' : (k : Int) < 4 := by omega
  have hx := HX8.out k (by omega)
  obtain ⟨v1, v2⟩ := itoa_val xs[k]
  have v3 := itoa_pos xs[k]
  have v4 := itoa_len (xs[k] : Int) (by omega) (by omega)
  have NM := Hh (fun V => num_any (Lib.itoa (xs[k] : Int)) 255 v3 (by omega) v2 (by decide) (by omega) V)
  rw [v1] at NM
  have hno := Hh (digs_no v2 (c := 46) (by decide))
  have HN := Hh (qpC_next hx4 hlt)
  have hwr : IntKind.u8.wrap (xs[k] : Int) = xs[k] := by rw [IntKind.wrap_u8]; omega
  have hcl := qpC_len hx4 hk
  have CT : Hid (∀ V, ∃ t2 fd, (k + 1 < 4 → t2 = restQ xs (k + 1)) ∧ Calls prog 101 #[.string (bs (restQ xs k)), .int .u8 46] V (RetB (.tuple #[.string (bs (Lib.itoa (xs[k] : Int))), .string (bs t2), .bool fd]) V)) := Hh (fun V => by
   by_cases hl : k + 1 < 4
   ·
    refine ⟨_, true, fun _ => rfl, ?_⟩
    rw [restQ_next (by omega)]
    exact cutYes_any _ _ 46 hno.out (by omega) V
   ·
    refine ⟨[], false, fun h => absurd h hl, ?_⟩
    rw [restQ_last (by omega)]
    refine (cutNo_any _ 46 hno.out V).mono ?_
    rintro _ _ ⟨rfl, rfl⟩
    exact RetB.mk rfl (Below.refl _ _))
  obtain ⟨t2, fd, ht2, CT2⟩ := CT.out wr
  have HC := Hh CT2
  have HT2 := Hh ht2
  generalize Lib.itoa (xs[k] : Int) = ti at *
  generalize xs[k] = x at *
  clear CT CT2 ht2 v1 v2 v3 v4 hno QT HX8 H4 HR0
  go_wp2_with fail
  refine HC.out.mono ?_
  rintro _ w2 ⟨rfl, b1⟩
  have Y4 := X4.below b1 X4.lt
  have Y2 := X2.below b1 X2.lt
  have S2 := below_then S S.size b1
  clear HC X4 X2 S b1
  go_wp2_with fail
  refine (NM.out _).mono ?_
  rintro _ _ ⟨rfl, rfl⟩
  clear NM
  go_wp2_with (refine at_op (.store 5 (.tmp 35) (.tmp 33)) rfl ?_; go_must (refine wpList_stC rfl 5 (.tmp 35) (.tmp 33) rfl g (1 + k) rfl (.int .u8 (x : Int)) rfl Y4 (by rw [hcl]; omega) (by kernel_rfl) rfl rfl ?_))
  intro w3 B3 g3 _
  rw [HN.out] at B3
  have Z2 := Y2.grown g3 (by intro e; injection e with e; omega)
  have S3 := below_grown S2 g3 S2.size (by omega)
  clear g3 Y4 Y2 S2 HN
  go_wp2_with fail
  go_roundw
  case rel => exact ⟨k + 1, t2, by omega, by go_num, rfl, Hh (fun h => HT2.out h), B3, Z2, S3⟩
  case measure => simp [intOf]; omega
 obtain rfl : k = 4 := by omega
 have hlt' : ¬ ((4 : Nat) : Int) < 4 := by omega
 rw [H4.out] at X4
 have hql : qc.length = 18 := by rw [← H4.out]; exact qpC_len hx4 (Nat.le_refl 4)
 have Q1 := Hh (QT.out wr S)
 have hqo : ∀ v ∈ qc, v.oneCell' = true := by rw [← H4.out]; exact qpC_one xs 4
 clear QT HX8 HR0 H4 HTR hlt hx4
 go_wp2_with (refine at_op (.load 31 (.tmp 4)) rfl ?_; go_must (refine wpList_ldB rfl _ _ rfl g 0 rfl X4 18 (by omega) _ underlying31 rfl adrInfo qc (tk0 (by omega)) ?_))
 refine Q1.out.mono ?_
 rintro _ w5 ⟨rfl, b1⟩
 have Y4 := X4.below b1 X4.lt
 have Y2 := X2.below b1 X2.lt
 have S2 := below_then S S.size b1
 clear Q1 X4 X2 S b1
 go_wp2_with (first
  | (refine at_op (.load 31 (.tmp 4)) rfl ?_; go_must (refine wpList_ldB rfl _ _ rfl g 0 rfl Y4 18 (by omega) _ underlying31 rfl adrInfo qc (tk0 (by omega)) ?_))
  | (refine at_op (.store 31 (.tmp 2) (.tmp 43)) rfl ?_; go_must (refine wpList_stB rfl _ _ _ rfl w.heap.size 0 rfl qc rfl Y2 (by rw [hql]; exact Nat.le_refl 18) (by rw [hql]; exact adrInfo) hqo ?_)))
 intro w6 B6 g6 _
 have X6 := blkAll B6 (by have : adrZ.length = 18 := rfl; omega)
 have S6 := below_grown S2 g6 S2.size (Nat.le_refl _)
 clear B6 g6 Y4 Y2 S2
 go_wp2_with fail
 refine ret_cell_tmp rfl w.heap.size rfl X6 _ underlying31 rfl (by rw [hql]; exact adrInfo) rfl _ rfl ?_
 exact RetB.mk rfl S6
end Go.Proofs.YtkcbffldncmbcaaGreatDoor
