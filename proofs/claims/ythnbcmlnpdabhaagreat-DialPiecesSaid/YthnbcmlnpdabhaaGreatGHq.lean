/-
  Layer 12, the reference: Get.
-/
import Derived.Test.YthnbcmlnpdabhaaGreatGGq
namespace Go.Proofs.YthnbcmlnpdabhaaGreat
open _root_.Go.Proofs.Tryz
open Go.RowKit
set_option maxRecDepth 100000
set_option linter.unusedVariables false
def smeas (s : GS) : Nat := (255 - s.size) + min s.bound 16384
theorem smeas_lab {at' size bound c a2 : Nat} {behind : Option Nat} {acc acc2 : List (List UInt8)} (hz : ¬ 255 < size + (c + 1)) : smeas ⟨a2, size + (c + 1), bound, behind, acc2⟩ < smeas ⟨at', size, bound, behind, acc⟩ := by simp only [smeas]; omega
theorem smeas_ptr {at' size bound q : Nat} {behind b2 : Option Nat} {acc : List (List UInt8)} (hq : q < bound) (h : q < 16384) : smeas ⟨q, size, q, b2, acc⟩ < smeas ⟨at', size, bound, behind, acc⟩ := by simp only [smeas]; omega
theorem num2 (m : List UInt8) (p : Nat) (h : ¬ m.length ≤ p + 1) : numB ((m.take (p + 2)).drop p) = (m.getD p 0).toNat * 256 + (m.getD (p + 1) 0).toNat := by
 have e : (m.take (p + 2)).drop p = [m.getD p 0, m.getD (p + 1) 0] := by
  rw [List.drop_take, show p + 2 - p = 2 by omega]
  have h1 : m.drop p = m.getD p 0 :: m.drop (p + 1) := by
   rw [List.drop_eq_getElem_cons (by omega)]; simp [List.getD, List.getElem?_eq_getElem (show p < m.length by omega)]
  have h2 : m.drop (p + 1) = m.getD (p + 1) 0 :: m.drop (p + 2) := by
   rw [List.drop_eq_getElem_cons (by omega)]; simp [List.getD, List.getElem?_eq_getElem (show p + 1 < m.length by omega)]
  rw [h1, h2]; rfl
 rw [e]
 simp [numB]; omega
def RdInv2 (m : List UInt8) (w : World) (o : GO) (k : Nat) (at_ n size from_ end_ step : Value) (wr : World) : Prop :=
 ∃ (s : GS) (st : Nat), smeas s ≤ k ∧ Gets m s o ∧ s.at' ≤ m.length ∧ s.bound ≤ m.length ∧ s.size ≤ 255 ∧ s.acc.length ≤ s.size ∧ (∀ b, s.behind = some b → b ≤ m.length) ∧ st + smeas s ≤ 60000 ∧
  at_ = .int .i64 s.at' ∧ size = .int .i64 s.size ∧ from_ = .int .i64 s.bound ∧ end_ = .int .i64 (bInt s.behind) ∧ step = .int .i64 st ∧
  Txts wr n s.acc ∧ Below w.heap.size w wr ∧ (∀ k, n.ownBlock = some k → w.heap.size ≤ k)
theorem refGet_out (m : List UInt8) (at_ : Int) (w : World) (h : outR m at_ = true) :
  Calls prog 181 #[.string (bs m), .int .i64 at_] w (GetRet (.err 4) w) := by
 have hb : at_ < 0 ∨ (0 ≤ at_ ∧ (m.length : Int) < at_) := by
  simp [outR] at h; omega
 clear h
 rcases hb with h | ⟨h0, h⟩
 all_goals
  go_enter func181, ntmps181
  go_wp2_with fail
  go_ret3
  exact ⟨_, rfl, Txts.nil _, Below.refl _ _, by simp [Value.ownBlock]⟩
set_option maxHeartbeats 4000000 in
theorem refGet_in (m : List UInt8) (a : Nat) (w : World) (hl : m.length ≤ 4000000) (ha : a ≤ m.length) (o : GO) (ho : Gets m ⟨a, 1, a, none, []⟩ o) :
  Calls prog 181 #[.string (bs m), .int .i64 a] w (GetRet o w) := by
 have ha' : (a : Int) ≤ m.length := by omega
 have ha0 : (0 : Int) ≤ a := by omega
 have d1 : decide ((a : Int) < 0) = false := decide_eq_false (by omega)
 have d2 : decide (m.length < a) = false := decide_eq_false (by omega)
 go_enter func181, ntmps181
 go_wp2_with fail
 go_loopg [1, 7, 8, 9, 10, 11] (smeas ⟨a, 1, a, none, []⟩) (fun k at_ n size from_ end_ step wr => RdInv2 m w o k at_ n size from_ end_ step wr)
 case atStart => exact ⟨⟨a, 1, a, none, []⟩, 0, Nat.le_refl _, ho, ha, ha, by simp, by simp, by simp, by simp [smeas]; omega, rfl, rfl, rfl, rfl, rfl, Txts.nil _, Below.refl _ _, by simp [Value.ownBlock]⟩
 case round =>
  clear ha' ha0 ho
  obtain ⟨⟨at', size, bound, behind, acc⟩, st, hk, hG, hat, hbd, hsz, hacc, hbh, hst, rfl, rfl, rfl, rfl, rfl, hT, hB, hob⟩ := hrel
  simp only at hk hG hat hbd hsz hacc hbh hT hst
  have hst2 : (st : Int) < 70000 := by omega
  go_upto_if 30 with fail
  clear hst2
  have hst3 : st ≤ m.length + 60000 := by omega
  have HG := Hh hG
  have HOB := Hh hob
  have HBH := Hh hbh
  have HK := Hh hk
  have HST := Hh hst
  clear hG hob hbh hk hst
  by_cases h1 : m.length ≤ at'
  ·
   have e1 : o = .err 1 := gets_err HG.out (by simp [gstep, h1])
   subst e1
   have h1' : (m.length : Int) ≤ at' := by omega
   go_wp2_with fail
   go_ret3
   exact ⟨_, rfl, Txts.nil _, hB, by simp [Value.ownBlock]⟩
  ·
   have h1' : (at' : Int) < m.length := by omega
   have hlt : at' < m.length := by omega
   obtain ⟨c, hc⟩ : ∃ c, c = (m.getD at' 0).toNat := ⟨_, rfl⟩
   have hc255 : c < 256 := by rw [hc]; exact UInt8.toNat_lt _
   have hidx := run_idx m at' c hlt hc
   have HC := Hh hc
   clear hc
   by_cases h0 : c = 0
   ·
    subst h0
    cases behind with
    | none =>
     have e1 : o = .ok acc (at' + 1) := gets_ok HG.out (gs_zero h1 HC.out)
     subst e1
     unfold bInt
     go_wp2_with fail
     go_ret3
     exact ⟨_, rfl, hT, hB, HOB.out⟩
    | some b =>
     have e1 : o = .ok acc b := gets_ok HG.out (gs_zero h1 HC.out)
     subst e1
     unfold bInt
     have hb0 : (0 : Int) ≤ b := by omega
     go_wp2_with fail
     go_ret3
     exact ⟨_, rfl, hT, hB, HOB.out⟩
   ·
    have h0' : ((c : Int) == 0) = false := by simp; omega
    by_cases h192 : c < 192
    ·
     have h192' : (c : Int) < 192 := by omega
     by_cases h63 : c ≤ 63
     ·
      have h63' : (c : Int) < 64 := by omega
      by_cases hs : m.length < at' + 1 + c
      ·
       have e1 : o = .err 1 := gets_err HG.out (gs_short h1 HC.out h0 h63 hs)
       subst e1
       have hs' : (m.length : Int) < (at' : Int) + 1 + c := by omega
       clear h0
       go_wp2_with fail
       go_ret3
       exact ⟨_, rfl, Txts.nil _, hB, by simp [Value.ownBlock]⟩
      ·
       have hs' : (at' : Int) + 1 + c ≤ m.length := by omega
       by_cases hz : 255 < size + (c + 1)
       ·
        have e1 : o = .err 3 := gets_err HG.out (gs_long h1 HC.out h0 h63 hs hz)
        subst e1
        have hz' : (255 : Int) < (size : Int) + c + 1 := by omega
        clear h0
        go_wp2_with fail
        go_ret3
        exact ⟨_, rfl, Txts.nil _, hB, by simp [Value.ownBlock]⟩
       ·
        have hz' : (size : Int) + c + 1 ≤ 255 := by omega
        have G2 := gets_go HG.out (gs_lab h1 HC.out h0 h63 hs hz)
        have HG2 := Hh G2
        have HM := Hh (smeas_lab (at' := at') (a2 := at' + 1 + c) (bound := bound) (behind := behind) (acc := acc) (acc2 := acc ++ [(m.take (at' + 1 + c)).drop (at' + 1)]) hz)
        clear h0 G2 h1
        go_wp2_with (at_builtin; go_must (refine wpList_app _ rfl (.tmp 81) (.tmp 90) 25 rfl 9 (.string ⟨#[]⟩) 1 16 underlying25 strInfo rfl (by decide) _ acc.length _ rfl (World.ownsRow.alloc hT _) ⟨wr.heap.size, 0, none⟩ 1 1 [.string (bs ((m.take (at' + 1 + c)).drop (at' + 1)))] rfl rfl (new_one _ _ _ _ rfl) (one_cell1 rfl) (by decide) (by simp only [maxLen]; omega) (by omega) ?_))
        intro g cap w1 hown1 hgrow hat'
        have hB1 : Below w.heap.size w w1 := (hB.alloc hB.size _).grown hgrow (by have := hB.size; simp; omega) (fun k hk => HOB.out k hk)
        have hT1 : Txts w1 (.slice (some ⟨g, 0, none⟩) (acc.length + 1) cap) (acc ++ [(m.take (at' + 1 + c)).drop (at' + 1)]) := by
         unfold Txts; simpa using hown1
        have hob1 : ∀ k, (Value.slice (some ⟨g, 0, none⟩) (acc.length + 1) cap).ownBlock = some k → w.heap.size ≤ k := by
         intro k hk
         have hkg : g = k := by simpa [Value.ownBlock] using hk
         subst hkg
         rcases hat' with e | e
         ·
          exact HOB.out _ e
         ·
          have := hB.size; omega
        have HOB1 := Hh hob1
        clear hown1 hgrow hat' hob1 HOB hT
        go_wp2_with fail
        go_roundg (smeas ⟨at' + 1 + c, size + (c + 1), bound, behind, acc ++ [(m.take (at' + 1 + c)).drop (at' + 1)]⟩)
        case measure => exact Nat.lt_of_lt_of_le HM.out HK.out
        case rel => exact ⟨_, st + 1, Nat.le_refl _, HG2.out, by simp only; omega, hbd, by simp only; omega, by simp; omega, HBH.out, by have h1 := HM.out; have h2 := HST.out; omega, by go_num, by go_num, rfl, rfl, by go_num, hT1, hB1, HOB1.out⟩
     ·
      have h63' : (64 : Int) ≤ c := by omega
      have e1 : o = .err 7 := gets_err HG.out (gs_bad h1 HC.out h63 h192)
      subst e1
      clear h0
      go_wp2_with fail
      go_ret3
      exact ⟨_, rfl, Txts.nil _, hB, by simp [Value.ownBlock]⟩
    ·
     have h192' : (192 : Int) ≤ c := by omega
     by_cases hps : m.length ≤ at' + 1
     ·
      have hps' : (m.length : Int) ≤ (at' : Int) + 1 := by omega
      have e1 : o = .err 1 := gets_err HG.out (gs_pshort h1 HC.out h192 hps)
      subst e1
      clear h0
      go_wp2_with fail
      go_ret3
      exact ⟨_, rfl, Txts.nil _, hB, by simp [Value.ownBlock]⟩
     ·
      have hps' : (at' : Int) + 1 < m.length := by omega
      have N2 := num2 m at' hps
      obtain ⟨d, hd⟩ : ∃ d, d = (m.getD (at' + 1) 0).toNat := ⟨_, rfl⟩
      have hd255 : d < 256 := by rw [hd]; exact UInt8.toNat_lt _
      have HD := Hh hd
      rw [← HC.out, ← hd] at N2
      have HN := Hh N2
      have hl2 : ((m.take (at' + 2)).drop at').length ≤ 4 := by simp; omega
      have HL2 := Hh hl2
      clear hd h0 N2 hl2
      go_wp2_with fail
      refine (refNum_any _ _ HL2.out).mono ?_
      rw [HN.out]
      rintro e w1 ⟨rfl, rfl⟩
      have hcast : ((c * 256 + d : Nat) : Int) = (c : Int) * 256 + d := by omega
      rw [hcast]
      clear hcast HN HL2
      by_cases hpb : bound ≤ c * 256 + d - 49152
      ·
       have e1 : o = .err 9 := gets_err HG.out (gs_pbad h1 HC.out h192 hps HD.out hpb)
       subst e1
       have hpb' : (bound : Int) ≤ (c : Int) * 256 + d - 49152 := by omega
       clear hpb
       go_wp2_with fail
       go_ret3
       exact ⟨_, rfl, Txts.nil _, hB, by simp [Value.ownBlock]⟩
      ·
       have G2 := gets_go HG.out (gs_ptr h1 HC.out h192 hps HD.out hpb)
       have HG2 := Hh G2
       have hpb' : (c : Int) * 256 + d - 49152 < bound := by omega
       obtain ⟨q, hq⟩ : ∃ q, q = c * 256 + d - 49152 := ⟨_, rfl⟩
       rw [← hq] at HG2
       have hqi : (c : Int) * 256 + d - 49152 = q := by omega
       have HQ := Hh hqi
       have hqb : q < bound := by omega
       have hq16 : q < 16384 := by omega
       have HM := Hh (smeas_ptr (at' := at') (size := size) (behind := behind) (b2 := some (behind.getD (at' + 2))) (acc := acc) hqb hq16)
       have hps2 : at' + 2 ≤ m.length := by omega
       clear hq hqi hpb h1 hps G2
       cases behind with
       | none =>
        unfold bInt
        go_wp2_with fail
        go_roundg (smeas ⟨q, size, q, some (at' + 2), acc⟩)
        case measure => exact Nat.lt_of_lt_of_le HM.out HK.out
        case rel => exact ⟨_, st + 1, Nat.le_refl _, HG2.out, by simp only; omega, by simp only; omega, hsz, hacc, (fun b hb => by injection hb with hb; subst hb; exact hps2), (by have h1 := HM.out; have h2 := HST.out; simp only [Option.getD_none] at h1 ⊢; omega), by rw [HQ.out], rfl, by rw [HQ.out], congrArg (Value.int .i64) (show (at' : Int) + 2 = ((at' + 2 : Nat) : Int) by omega), by go_num, hT, hB, HOB.out⟩
       | some b =>
        unfold bInt
        have hb0 : (0 : Int) ≤ b := by omega
        go_wp2_with fail
        go_roundg (smeas ⟨q, size, q, some b, acc⟩)
        case measure => exact Nat.lt_of_lt_of_le HM.out HK.out
        case rel => exact ⟨_, st + 1, Nat.le_refl _, HG2.out, by simp only; omega, by simp only; omega, hsz, hacc, fun b' hb' => HBH.out b' hb', (by have h1 := HM.out; have h2 := HST.out; simp only [Option.getD_some] at h1 ⊢; omega), by rw [HQ.out], rfl, by rw [HQ.out], rfl, by go_num, hT, hB, HOB.out⟩
theorem refGet_any (m : List UInt8) (at_ : Int) (w : World) (hl : m.length ≤ 4000000) :
  Calls prog 181 #[.string (bs m), .int .i64 at_] w (GetRet (pget m at_) w) := by
 unfold pget
 cases h : outR m at_ with
 | true => rw [if_pos rfl]; exact refGet_out m at_ w h
 | false =>
  rw [if_neg (by simp)]
  have hb : 0 ≤ at_ ∧ at_ ≤ m.length := by simp [outR] at h; omega
  have := refGet_in m at_.toNat w hl (by omega) _ (gets_at m at_.toNat)
  rwa [Int.toNat_of_nonneg hb.1] at this
def GInv (m : List UInt8) (s : GS) : Prop := 1 + lsum s.acc = s.size ∧ s.size ≤ 255 ∧ GoodN s.acc ∧ s.at' ≤ m.length ∧ s.bound ≤ m.length ∧ ∀ b, s.behind = some b → b ≤ m.length
def GFin (m : List UInt8) : GO → Prop
 | .ok l n => GoodN l ∧ 1 + lsum l ≤ 255 ∧ n ≤ m.length
 | .err e => e = 1 ∨ e = 3 ∨ e = 7 ∨ e = 9
 | .go _ => False
theorem GoodN.snoc {a : List (List UInt8)} {l : List UInt8} (h : GoodN a) (h1 : 1 ≤ l.length) (h2 : l.length ≤ 63) : GoodN (a ++ [l]) := by
 intro x hx
 rcases List.mem_append.1 hx with hx | hx
 ·
  exact h x hx
 ·
  rw [List.mem_singleton] at hx; subst hx; exact ⟨h1, h2⟩
theorem gstep_inv {m : List UInt8} {s : GS} (hi : GInv m s) : (∃ s', gstep m s = .go s' ∧ GInv m s') ∨ (GFin m (gstep m s) ∧ ∀ s', gstep m s ≠ .go s') := by
 obtain ⟨at', size, bound, behind, acc⟩ := s
 obtain ⟨h1, h2, h3, h4, h5, h6⟩ := hi
 simp only at h1 h2 h3 h4 h5 h6
 obtain ⟨c, hc⟩ : ∃ c, c = (m.getD at' 0).toNat := ⟨_, rfl⟩
 by_cases e1 : m.length ≤ at'
 ·
  right
  have : gstep m ⟨at', size, bound, behind, acc⟩ = .err 1 := by simp [gstep, e1]
  rw [this]; exact ⟨.inl rfl, by simp⟩
 by_cases e0 : c = 0
 ·
  right
  rw [gs_zero e1 (by rw [← hc, e0])]
  refine ⟨⟨h3, by omega, ?_⟩, by simp⟩
  cases behind with
  | none => simp; omega
  | some b => simpa using h6 b rfl
 by_cases e63 : c ≤ 63
 ·
  by_cases es : m.length < at' + 1 + c
  ·
   right; rw [gs_short e1 hc e0 e63 es]; exact ⟨.inl rfl, by simp⟩
  by_cases ez : 255 < size + (c + 1)
  ·
   right; rw [gs_long e1 hc e0 e63 es ez]; exact ⟨.inr (.inl rfl), by simp⟩
  left
  refine ⟨_, gs_lab e1 hc e0 e63 es ez, ?_⟩
  have hl : ((m.take (at' + 1 + c)).drop (at' + 1)).length = c := by simp; omega
  refine ⟨?_, by simp only; omega, h3.snoc (by omega) (by omega), by simp only; omega, h5, h6⟩
  simp only [lsum_app, lsum, hl]
  omega
 by_cases e192 : c < 192
 ·
  right; rw [gs_bad e1 hc e63 e192]; exact ⟨.inr (.inr (.inl rfl)), by simp⟩
 by_cases ep : m.length ≤ at' + 1
 ·
  right; rw [gs_pshort e1 hc e192 ep]; exact ⟨.inl rfl, by simp⟩
 by_cases eb : bound ≤ c * 256 + (m.getD (at' + 1) 0).toNat - 49152
 ·
  right; rw [gs_pbad e1 hc e192 ep rfl eb]; exact ⟨.inr (.inr (.inr rfl)), by simp⟩
 left
 refine ⟨_, gs_ptr e1 hc e192 ep rfl eb, h1, h2, h3, by simp only; omega, by simp only; omega, ?_⟩
 intro b hb
 cases behind with
 | none => simp at hb; omega
 | some b' => simp at hb; subst hb; exact h6 _ rfl
theorem gets_fin {m : List UInt8} {s : GS} {o : GO} (h : Gets m s o) : GInv m s → GFin m o := by
 induction h with
 | err e =>
  intro hi
  rcases gstep_inv hi with ⟨s', h, _⟩ | ⟨h, _⟩
  ·
   rw [e] at h; cases h
  ·
   rwa [e] at h
 | ok e =>
  intro hi
  rcases gstep_inv hi with ⟨s', h, _⟩ | ⟨h, _⟩
  ·
   rw [e] at h; cases h
  ·
   rwa [e] at h
 | go e _ ih =>
  intro hi
  rcases gstep_inv hi with ⟨s', h, hi'⟩ | ⟨_, h⟩
  ·
   rw [e] at h; injection h with h; subst h; exact ih hi'
  ·
   exact absurd e (h _)
def PFin (m : List UInt8) : GO → Prop
 | .ok l n => GoodN l ∧ 1 + lsum l ≤ 255 ∧ n ≤ m.length
 | .err e => e = 1 ∨ e = 3 ∨ e = 4 ∨ e = 7 ∨ e = 9
 | .go _ => False
theorem pget_fin (m : List UInt8) (at_ : Int) : PFin m (pget m at_) := by
 unfold pget
 cases h : outR m at_ with
 | true => rw [if_pos rfl]; exact .inr (.inr (.inl rfl))
 | false =>
  rw [if_neg (by simp)]
  have hb : 0 ≤ at_ ∧ at_ ≤ m.length := by simp [outR] at h; omega
  have := gets_fin (gets_at m at_.toNat) ⟨rfl, by simp, by intro x hx; simp at hx, by simp only; omega, by simp only; omega, by simp⟩
  cases ho : gresAt m at_.toNat with
  | ok l n => rw [ho] at this; exact this
  | err e => rw [ho] at this; rcases this with h | h | h | h <;> simp [PFin, h]
  | go s => rw [ho] at this; exact this
theorem rd_gets {m : List UInt8} {b p : Nat} {n : List (List UInt8)} {e : Nat} (h : Rd m b p n e) : ∀ (size : Nat) (acc : List (List UInt8)) (beh : Option Nat), size + lsum n ≤ 255 → Gets m ⟨p, size, b, beh, acc⟩ (.ok (acc ++ n) (beh.getD e)) := by
 induction h with
 | nil h1 h2 =>
  intro size acc beh _
  rw [List.append_nil]
  exact .ok (gs_zero (by omega) h2.symm)
 | @cons b p l n e h1 h2 h3 h4 h5 h6 _ ih =>
  intro size acc beh hs
  simp only [lsum] at hs
  refine .go (gs_lab (by omega) h2.symm (by omega) h4 (by omega) (by omega)) ?_
  rw [h6]
  have := ih (size + (l.length + 1)) (acc ++ [l]) beh (by omega)
  simpa using this
 | @ptr b p q n e h1 h2 h3 h4 _ ih =>
  intro size acc beh hs
  have hp := gs_ptr (m := m) (at' := p) (size := size) (bound := b) (behind := beh) (acc := acc) (by omega) rfl (by omega) (by omega) rfl (by omega)
  rw [h3] at hp
  refine .go hp ?_
  have := ih size acc (some (beh.getD (p + 2))) hs
  simpa using this
theorem rd_pget {m : List UInt8} {p : Nat} {n : List (List UInt8)} {e : Nat} (h : Rd m p p n e) (hp : p ≤ m.length) (hs : 1 + lsum n ≤ 255) : pget m p = .ok n e := by
 have h1 := rd_gets h 1 [] none hs
 unfold pget
 have ho : outR m p = false := by simp [outR]; omega
 rw [ho, if_neg (by simp), Int.toNat_natCast]
 exact gets_fun (gets_at m p) h1
end Go.Proofs.YthnbcmlnpdabhaaGreat
