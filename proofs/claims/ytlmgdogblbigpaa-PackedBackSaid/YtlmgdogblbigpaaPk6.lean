/-
  Layer 12 (packed): octets, New; tables as maps.
-/
import Derived.Test.YtlmgdogblbigpaaOwn
import Derived.Maps.OwnSet
namespace Go.Proofs.Ytlmgdogblbigpaa
open Go.RowKit
set_option maxRecDepth 100000
set_option linter.unusedVariables false

/-- 'string(b)', b a row of the call's own. -/
theorem run_str_own {w : World} {B : Nat} {v : Value} {q : List UInt8} (h : w.ownsRow B 5 1 v q.length (octs q)) : (convert 94 9 v).run Try.prog w = .ok (.string (bs q)) w := by
  rcases h.2 with ⟨rfl, h0⟩ | ⟨g, cap, cur, rfl, _⟩
  · have : q = [] := List.length_eq_zero_iff.1 h0
    subst this
    have : (convert 94 9 (.slice none 0 0)).run Try.prog w = .ok (.string ⟨#[]⟩) w := by kernel_rfl
    exact this
  · refine run_convert_bytes_back w 94 9 5 ⟨g, 0, none⟩ cap q Try.underlying94 Try.underlying5 Try.underlying9 ?_
    intro j hj
    exact h.cells (g := g) rfl j _ (octs_get q j hj)
/-- Where the labels of a name begin. -/
def begs (n : List (List UInt8)) (k : Nat) : List Nat := (List.range k).map fun j => lsum (n.take j)
theorem begs_length (n : List (List UInt8)) (k : Nat) : (begs n k).length = k := by simp [begs]
theorem begs_succ (n : List (List UInt8)) (k : Nat) : begs n (k + 1) = begs n k ++ [lsum (n.take k)] := by simp [begs, List.range_succ]
def ints (l : List Nat) : List Value := l.map fun (x : Nat) => Value.int .i64 (x : Int)
theorem ints_length (l : List Nat) : (ints l).length = l.length := by simp [ints]
theorem ints_app (a b : List Nat) : ints (a ++ b) = ints a ++ ints b := by simp [ints]
theorem intInfo : (Try.prog.info? 3).map (fun i => (i.zero, i.size, i.bytes)) = some (some (.int .i64 0), 1, 8) := by kernel_rfl
theorem encN_take (n : List (List UInt8)) (k : Nat) (h : k < n.length) : encN (n.take (k + 1)) = encN (n.take k) ++ [UInt8.ofNat n[k].length] ++ n[k] := by
  rw [List.take_succ_eq_append_getElem h, encN_app]; simp [encN, encL]
/-- What octets tells. -/
def OctsRet (n : List (List UInt8)) (w : World) (e : Ending) (w' : World) : Prop :=
  ∃ v, e = .returned (.tuple #[.string (bs (encN n)), v]) ∧ w'.ownsRow w.heap.size 3 1 v n.length (ints (begs n n.length)) ∧ Below w.heap.size w w'

set_option maxHeartbeats 2000000 in
theorem octets_any (A : Option Addr) (c : Nat) (n : List (List UInt8)) (w : World) (hA : TxtR w A n) (hg : GoodN n) (hs : lsum n ≤ 254) :
    Calls Try.prog 62 #[.slice A n.length c] w (OctsRet n w) := by
  have hnl : n.length ≤ 254 := Nat.le_trans (lsum_ge n) hs
  obtain ⟨i0, hi0, hz0, hz1, hz2⟩ := info_parts intInfo
  go_enter Try.func62, Try.ntmps62
  go_wp2_with (at_make; go_must (refine wpList_make_own _ rfl (.const (.int .i64 0)) (.tmp 9) 33 rfl w.heap.size 3 i0 (.int .i64 0) 1 Try.underlying33 hi0 hz0 hz1 .i64 .i64 _ n.length rfl rfl rfl (by rw [hz2]; omega) (by simp only [maxLen]; omega) (Nat.le_refl _) ?_))
  intro w1 hown1 hgrow1
  have hB1 : Below w.heap.size w w1 := (Below.refl _ w).grown hgrow1 (Nat.le_refl _) (by intro k hk; cases hk)
  clear hgrow1
  go_wp2_with fail
  go_loopw [4, 5, 13] (fun b bg i wr => ∃ k : Nat, k ≤ n.length ∧ i = .int .i64 k ∧ wr.ownsRow w.heap.size 5 1 b (encN (n.take k)).length (octs (encN (n.take k))) ∧ wr.ownsRow w.heap.size 3 1 bg k (ints (begs n k)) ∧ Below w.heap.size w wr) (fun _ _ i _ => n.length - (intOf i).toNat)
  case atStart => exact ⟨0, Nat.zero_le _, rfl, World.ownsRow_nil _ _ _ _, hown1, hB1⟩
  case round =>
    clear hown1 hB1
    clear w1
    obtain ⟨k, hk, rfl, hb, hbg, hB⟩ := hrel
    obtain ⟨Ab, cb, hv⟩ := own_form hb
    obtain ⟨Ag, cg, hv2⟩ := own_form hbg
    rw [encN_length] at hb hv
    have hle := lsum_take_le n k
    by_cases hlt : k < n.length
    · have hlt' : (k : Int) < n.length := by omega
      obtain ⟨ba, oa, rfl, hba, xa⟩ := hA (by omega)
      have c1 := (hB.cell hba).trans (xa k hlt)
      have XK := Lib.hid (xa k hlt)
      have ET := Lib.hid (encN_take n k hlt)
      have hle2 := lsum_take_le n (k + 1)
      rw [lsum_take n k hlt] at hle2
      have hl63 := (hg n[k] (List.getElem_mem hlt)).2
      clear xa
      rw [hv, hv2]
      rw [hv] at hb
      rw [hv2] at hbg
      clear hv hv2
      go_wp2_with (at_builtin; go_must (refine wpList_appB _ rfl (.tmp 17) (.tmp 20) 33 rfl 3 (.int .i64 0) 1 8 Try.underlying33 intInfo rfl (by decide) w.heap.size _ k _ rfl (World.ownsRow.alloc hbg _) (by have := hB.size; simp; omega) ⟨wr.heap.size, 0, none⟩ 1 1 [.int .i64 (lsum (n.take k))] rfl rfl (new_one _ _ _ _ rfl) (one_cell1 rfl) (by decide) (by simp only [maxLen]; omega) (by omega) ?_))
      intro g2 cap2 w2 hbg2 hgr2 hlt2
      have hb2 := own_own (hb.alloc _) (hbg.alloc _) (by decide) hgr2
      have hB2 := below_own (hB.alloc hB.size _) (by have := hB.size; simp; omega) (hbg.alloc _) hgr2
      have hbg2' : w2.ownsRow w.heap.size 3 1 (.slice (some ⟨g2, 0, none⟩) (k + 1) cap2) (k + 1) (ints (begs n (k + 1))) := by rw [begs_succ, ints_app]; exact hbg2
      clear hb hbg hbg2 hgr2 hB c1
      go_wp2_with (at_builtin; go_must (refine wpList_appB _ rfl (.tmp 22) (.tmp 26) 94 rfl 5 (.int .u8 0) 1 1 Try.underlying94 byteInfo rfl (by decide) w.heap.size _ (lsum (n.take k)) _ rfl (World.ownsRow.alloc hb2 _) (by have := hB2.size; simp; omega) ⟨w2.heap.size, 0, none⟩ 1 1 [.int .u8 (n[k].length : Int)] rfl rfl (new_one _ _ _ _ rfl) (one_cell1 rfl) (by decide) (by simp only [maxLen]; omega) (by omega) ?_))
      intro g3 cap3 w3 hb3 hgr3 hlt3
      have hbg3 := own_own (hbg2'.alloc _) (hb2.alloc _) (by decide) hgr3
      have hB3 := below_own (hB2.alloc hB2.size _) (by have := hB2.size; simp; omega) (hb2.alloc _) hgr3
      obtain ⟨q, hq⟩ : ∃ q, q = encN (n.take k) ++ [UInt8.ofNat n[k].length] := ⟨_, rfl⟩
      have hql : q.length = lsum (n.take k) + 1 := by rw [hq, List.length_append, encN_length]; rfl
      have hb3' : w3.ownsRow w.heap.size 5 1 (.slice (some ⟨g3, 0, none⟩) (lsum (n.take k) + 1) cap3) q.length (octs q) := by
        rw [hql, hq, octs_app]
        have : octs [UInt8.ofNat n[k].length] = [.int .u8 (n[k].length : Int)] := by simp [octs]; omega
        rw [this]; exact hb3
      have HQ := Lib.hid hq
      have hql2 : q.length + n[k].length ≤ 1000 := by omega
      have HQL := Lib.hid hql
      clear hb2 hbg2' hB2 hgr3 hb3 hq hql
      go_wp2_with (at_builtin; go_must (refine wpList_appS _ rfl (.tmp 28) (.tmp 29) rfl w.heap.size _ q n[k] rfl hb3' hB3.size rfl (by omega) ?_))
      intro A4 c4 w4 hb4 hgr4
      have hbg4 := own_own hbg3 hb3' (by decide) hgr4
      have hB4 := below_own hB3 hB3.size hb3' hgr4
      have hE : q ++ n[k] = encN (n.take (k + 1)) := by rw [ET.out, HQ.out]
      rw [hE] at hb4
      have HE := Lib.hid (show (encN (n.take (k + 1))).length = q.length + n[k].length by rw [← hE, List.length_append])
      clear hE hb3' hbg3 hB3 hgr4
      go_wp2_with fail
      go_roundw
      case rel => exact ⟨k + 1, by omega, by go_num, by rw [HE.out]; exact hb4, hbg4, hB4⟩
      case measure => simp [intOf]; omega
    · have hlt' : ¬ (k : Int) < n.length := by omega
      obtain rfl : k = n.length := by omega
      have ht : n.take n.length = n := List.take_of_length_le (Nat.le_refl _)
      rw [ht] at hb hv
      rw [hv, hv2]
      rw [hv] at hb
      rw [hv2] at hbg
      rw [← encN_length] at hb
      have hcv := run_str_own hb
      rw [encN_length] at hcv
      clear hv hv2 ht hb
      go_wp2_with fail
      go_ret2
      exact ⟨_, rfl, hbg, hB⟩
end Go.Proofs.Ytlmgdogblbigpaa
