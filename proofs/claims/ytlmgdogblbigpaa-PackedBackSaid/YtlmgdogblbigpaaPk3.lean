/-
  Layer 12 (packed): read.
-/
import Derived.Test.YtlmgdogblbigpaaPk2
namespace Go.Proofs.Ytlmgdogblbigpaa
open Go.RowKit
set_option maxRecDepth 100000
set_option linter.unusedVariables false

/-- What the reading of a whole name comes to. -/
def ReadRet (m : List UInt8) (g lo : Nat) (w : World) (o : GO) (e : Ending) (w' : World) : Prop :=
  match o with
  | .err x => e = .panicked (stopP x) ∧ Below lo w w'
  | .ok l n => e = .returned (.int .i64 n) ∧ ∃ v a z, RdAt w' g m a z v ∧ Txts w' v l ∧ Below lo w w' ∧ (∀ k, v.ownBlock = some k → lo ≤ k ∧ k ≠ g)
  | .go _ => False
/-- Where the first pointer is behind; -1: there was none. -/
def bInt : Option Nat → Int
  | none => -1
  | some b => b
/-- What holds at each round. -/
def RdInv (m : List UInt8) (g lo : Nat) (w : World) (o : GO) (k : Nat) (behind bound : Value) (wr : World) : Prop :=
  ∃ (s : GS) (v : Value), gmeas s ≤ k ∧ Gets m s o ∧ s.at' ≤ m.length ∧ s.bound ≤ m.length ∧ s.size ≤ 255 ∧ s.acc.length ≤ s.size ∧ behind = .int .i64 (bInt s.behind) ∧ (∀ b, s.behind = some b → b ≤ m.length) ∧ bound = .int .i64 s.bound ∧
    RdAt wr g m s.at' s.size v ∧ Txts wr v s.acc ∧ Below lo w wr ∧ (∀ k, v.ownBlock = some k → lo ≤ k ∧ k ≠ g)
theorem gstep_next {m : List UInt8} {s s' : GS} {o : GO} (hg : Gets m s o) (h : gstep m s = .go s') (hs : s.size ≤ 255) : Gets m s' o ∧ gmeas s' < gmeas s := ⟨gets_go hg h, (gstep_lt h hs).1⟩

section
variable {m : List UInt8} {at' size bound c : Nat} {behind : Option Nat} {acc : List (List UInt8)}
theorem gs_zero (h1 : ¬ m.length ≤ at') (hc : 0 = (m.getD at' 0).toNat) : gstep m ⟨at', size, bound, behind, acc⟩ = .ok acc (behind.getD (at' + 1)) := by
  unfold gstep; simp only; rw [if_neg h1, if_pos hc.symm]
theorem gs_short (h1 : ¬ m.length ≤ at') (hc : c = (m.getD at' 0).toNat) (h0 : c ≠ 0) (h63 : c ≤ 63) (hs : m.length < at' + 1 + c) : gstep m ⟨at', size, bound, behind, acc⟩ = .err 1 := by
  unfold gstep; simp only; rw [← hc, if_neg h1, if_neg h0, if_pos h63, if_pos hs]
theorem gs_long (h1 : ¬ m.length ≤ at') (hc : c = (m.getD at' 0).toNat) (h0 : c ≠ 0) (h63 : c ≤ 63) (hs : ¬ m.length < at' + 1 + c) (hz : 255 < size + (c + 1)) : gstep m ⟨at', size, bound, behind, acc⟩ = .err 3 := by
  unfold gstep; simp only; rw [← hc, if_neg h1, if_neg h0, if_pos h63, if_neg hs, if_pos hz]
theorem gs_lab (h1 : ¬ m.length ≤ at') (hc : c = (m.getD at' 0).toNat) (h0 : c ≠ 0) (h63 : c ≤ 63) (hs : ¬ m.length < at' + 1 + c) (hz : ¬ 255 < size + (c + 1)) :
    gstep m ⟨at', size, bound, behind, acc⟩ = .go ⟨at' + 1 + c, size + (c + 1), bound, behind, acc ++ [(m.take (at' + 1 + c)).drop (at' + 1)]⟩ := by
  unfold gstep; simp only; rw [← hc, if_neg h1, if_neg h0, if_pos h63, if_neg hs, if_neg hz]
theorem gs_bad (h1 : ¬ m.length ≤ at') (hc : c = (m.getD at' 0).toNat) (h63 : ¬ c ≤ 63) (h192 : c < 192) : gstep m ⟨at', size, bound, behind, acc⟩ = .err 7 := by
  unfold gstep; simp only; rw [← hc, if_neg h1, if_neg (by omega), if_neg h63, if_pos h192]
theorem gs_pshort (h1 : ¬ m.length ≤ at') (hc : c = (m.getD at' 0).toNat) (h192 : ¬ c < 192) (hs : m.length ≤ at' + 1) : gstep m ⟨at', size, bound, behind, acc⟩ = .err 1 := by
  unfold gstep; simp only; rw [← hc, if_neg h1, if_neg (by omega), if_neg (by omega), if_neg h192, if_pos hs]
theorem gs_pbad {d : Nat} (h1 : ¬ m.length ≤ at') (hc : c = (m.getD at' 0).toNat) (h192 : ¬ c < 192) (hs : ¬ m.length ≤ at' + 1) (hd : d = (m.getD (at' + 1) 0).toNat) (hb : bound ≤ c * 256 + d - 49152) : gstep m ⟨at', size, bound, behind, acc⟩ = .err 9 := by
  unfold gstep; simp only; rw [← hc, ← hd, if_neg h1, if_neg (by omega), if_neg (by omega), if_neg h192, if_neg hs, if_pos hb]
theorem gs_ptr {d : Nat} (h1 : ¬ m.length ≤ at') (hc : c = (m.getD at' 0).toNat) (h192 : ¬ c < 192) (hs : ¬ m.length ≤ at' + 1) (hd : d = (m.getD (at' + 1) 0).toNat) (hb : ¬ bound ≤ c * 256 + d - 49152) :
    gstep m ⟨at', size, bound, behind, acc⟩ = .go ⟨c * 256 + d - 49152, size, c * 256 + d - 49152, some (behind.getD (at' + 2)), acc⟩ := by
  unfold gstep; simp only; rw [← hc, ← hd, if_neg h1, if_neg (by omega), if_neg (by omega), if_neg h192, if_neg hs, if_neg hb]
end
theorem RdAt.lt {w : World} {g : Nat} {m : List UInt8} {a z : Nat} {v : Value} (h : RdAt w g m a z v) : g < w.heap.size := Blk.lt h
theorem below_stop {lo g : Nat} {w wr w1 : World} (hB : Below lo w wr) (hg : wr.grownBy w1 (some g)) (hlt : g < wr.heap.size) (hlo : lo ≤ g) : Below lo w w1 := hB.grown hg (by omega) (by intro k hk; injection hk with hk; omega)

set_option maxHeartbeats 4000000 in
theorem read_any (g : Nat) (m : List UInt8) (a : Nat) (lo : Nat) (o : GO) (w : World) (h : RdAt w g m a 1 (.slice none 0 0)) (hlo : lo ≤ g) (hl : m.length ≤ 70000) (ha : a ≤ m.length) (ho : Gets m ⟨a, 1, a, none, []⟩ o) :
    Calls Try.prog 58 #[.pointer (some ⟨g, 0, none⟩)] w (ReadRet m g lo w o) := by
  have c1 := h.cell_ 1 rfl
  go_enter Try.func58, Try.ntmps58
  go_wp2_with fail
  go_loopg [3, 4] (gmeas ⟨a, 1, a, none, []⟩) (fun k behind bound wr => RdInv m g lo w o k behind bound wr)
  case atStart => exact ⟨⟨a, 1, a, none, []⟩, .slice none 0 0, Nat.le_refl _, ho, ha, ha, by simp, by simp, rfl, by simp, rfl, h, Txts.nil _, Below.refl _ _, by simp [Value.ownBlock]⟩
  case round =>
    clear c1 h ho
    obtain ⟨⟨at', size, bound, behind, acc⟩, v, hk, hG, hat, hbd, hsz, hacc, rfl, hbh, rfl, hR, hT, hB, hob⟩ := hrel
    simp only at hk hG hat hbd hsz hacc hbh hR hT
    have HG := Lib.hid hG
    have HOB := Lib.hid hob
    have HBH := Lib.hid hbh
    clear hG hob hbh
    by_cases h1 : m.length ≤ at'
    · have e1 : o = .err 1 := gets_err HG.out (by simp [gstep, h1])
      subst e1
      go_wp2_with fail
      refine (octet_no g m at' size v _ hR hl h1).mono ?_
      rintro e w1 ⟨rfl, hg⟩
      go_wp2_with fail
      exact ⟨rfl, rfl, hB.grown hg (by have := hR.lt; omega) (by intro k hk; injection hk with hk; omega)⟩
    · have C := octet_yes g m at' size v wr hR hl (by omega)
      obtain ⟨c, hc⟩ : ∃ c, c = (m.getD at' 0).toNat := ⟨_, rfl⟩
      have hc255 : c < 256 := by rw [hc]; exact UInt8.toNat_lt _
      unfold OctRet at C
      rw [← hc] at C
      have HC := Lib.hid hc
      clear hc
      go_wp2_with fail
      refine C.mono ?_
      rintro e w1 ⟨rfl, hR1, hg1, hs1⟩
      have hB1 : Below lo w w1 := hB.grown hg1 (by have := hR.lt; omega) (by intro k hk; injection hk with hk; omega)
      have hT1 : Txts w1 v acc := hT.grown hg1 hR (by decide)
      clear C hR hT hB hg1 hs1
      clear wr
      have hg1 := hR1.lt
      by_cases h0 : c = 0
      · subst h0
        have r1 := hR1.cell_ 1 rfl
        cases behind with
        | none =>
          have e1 : o = .ok acc (at' + 1) := gets_ok HG.out (gs_zero h1 HC.out)
          subst e1
          unfold bInt
          go_wp2_with fail
          go_ret
          exact ⟨ret_int (by go_num), v, _, _, hR1, hT1, hB1, HOB.out⟩
        | some b =>
          have e1 : o = .ok acc b := gets_ok HG.out (gs_zero h1 HC.out)
          subst e1
          unfold bInt
          have hb0 : (0 : Int) ≤ b := by omega
          go_wp2_with fail
          go_ret
          exact ⟨rfl, v, _, _, hR1, hT1, hB1, HOB.out⟩
      · have h0' : ((c : Int) == 0) = false := by simp; omega
        by_cases h63 : c ≤ 63
        · have h63' : (c : Int) ≤ 63 := by omega
          by_cases hs : m.length < at' + 1 + c
          · have e1 : o = .err 1 := gets_err HG.out (gs_short h1 HC.out h0 h63 hs)
            subst e1
            clear h0
            go_wp2_with fail
            refine (label_short g m (at' + 1) size c v _ hR1 hl (by omega) h63 (by omega)).mono ?_
            rintro e w2 ⟨rfl, hg⟩
            go_wp2_with fail
            exact ⟨rfl, rfl, below_stop hB1 hg hg1 hlo⟩
          · have C := label_yes g m (at' + 1) size c v acc lo w1 hR1 hT1 hlo HOB.out hl (by omega) hsz h63 (by omega)
            by_cases hz : 255 < size + (c + 1)
            · have e1 : o = .err 3 := gets_err HG.out (gs_long h1 HC.out h0 h63 hs hz)
              subst e1
              clear h0
              go_wp2_with fail
              refine C.mono ?_
              rintro e w2 (⟨h, _⟩ | ⟨_, rfl, hb⟩)
              · omega
              go_wp2_with fail
              exact ⟨rfl, rfl, hB1.trans hb⟩
            · obtain ⟨G2, M2⟩ := gstep_next HG.out (gs_lab h1 HC.out h0 h63 hs hz) hsz
              have HG2 := Lib.hid G2
              have hm2 := Nat.lt_of_lt_of_le M2 hk
              clear h0 G2 M2
              go_wp2_with fail
              refine C.mono ?_
              rintro e w2 (⟨_, rfl, v2, hR2, hT2, hB2, ho2⟩ | ⟨h, _⟩)
              · go_wp2_with fail
                go_roundg (gmeas ⟨at' + 1 + c, size + (c + 1), bound, behind, acc ++ [(m.take (at' + 1 + c)).drop (at' + 1)]⟩)
                case measure => exact hm2
                case rel => exact ⟨_, v2, Nat.le_refl _, HG2.out, by simp; omega, hbd, by simp; omega, by simp; omega, rfl, HBH.out, rfl, hR2, hT2, hB1.trans hB2, ho2⟩
              · omega
        · have h63' : (63 : Int) < c := by omega
          by_cases h192 : c < 192
          · have h192' : (c : Int) < 192 := by omega
            have e1 : o = .err 7 := gets_err HG.out (gs_bad h1 HC.out h63 h192)
            subst e1
            clear h0
            go_wp2_with fail
            exact ⟨rfl, rfl, hB1⟩
          · have h192' : (192 : Int) ≤ c := by omega
            by_cases hps : m.length ≤ at' + 1
            · have e1 : o = .err 1 := gets_err HG.out (gs_pshort h1 HC.out h192 hps)
              subst e1
              clear h0
              go_wp2_with fail
              refine (octet_no g m (at' + 1) size v _ hR1 hl hps).mono ?_
              rintro e w2 ⟨rfl, hg⟩
              go_wp2_with fail
              exact ⟨rfl, rfl, below_stop hB1 hg hg1 hlo⟩
            · have C := octet_yes g m (at' + 1) size v w1 hR1 hl (by omega)
              obtain ⟨d, hd⟩ : ∃ d, d = (m.getD (at' + 1) 0).toNat := ⟨_, rfl⟩
              have hd255 : d < 256 := by rw [hd]; exact UInt8.toNat_lt _
              unfold OctRet at C
              rw [← hd] at C
              have HD := Lib.hid hd
              clear hd h0
              go_wp2_with fail
              refine C.mono ?_
              rintro e w2 ⟨rfl, hR2, hg2, hs2⟩
              have hB2 : Below lo w w2 := below_stop hB1 hg2 hg1 hlo
              have hT2 : Txts w2 v acc := hT1.grown hg2 hR1 (by decide)
              clear C hR1 hT1 hB1 hg2 hs2 hg1
              clear w1
              have r1 := hR2.cell_ 1 rfl
              have fr1 := hR2.frozen 1
              by_cases hpb : bound ≤ c * 256 + d - 49152
              · have e1 : o = .err 9 := gets_err HG.out (gs_pbad h1 HC.out h192 hps HD.out hpb)
                subst e1
                have hpb' : (bound : Int) ≤ (c : Int) * 256 + d - 49152 := by omega
                go_wp2_with fail
                exact ⟨rfl, rfl, hB2⟩
              · obtain ⟨G2, M2⟩ := gstep_next HG.out (gs_ptr h1 HC.out h192 hps HD.out hpb) hsz
                have HG2 := Lib.hid G2
                have HM := Lib.hid (Nat.lt_of_lt_of_le M2 hk)
                have hpb' : (c : Int) * 256 + d - 49152 < bound := by omega
                clear G2 M2
                obtain ⟨q, hq⟩ : ∃ q, q = c * 256 + d - 49152 := ⟨_, rfl⟩
                rw [← hq] at HG2 HM
                have hqi : (c : Int) * 256 + d - 49152 = q := by omega
                have HQ := Lib.hid hqi
                have hqb : q < bound := by omega
                have hps2 : at' + 2 ≤ m.length := by omega
                clear hq hqi hpb h1 hps hk
                have hR3 : ∀ u, u = Value.int .i64 (q : Int) → RdAt (w2.setCell ⟨g, 1, none⟩ u) g m q size v := fun u hu => by subst hu; exact hR2.set 1 _
                have hT3 : ∀ u, Txts (w2.setCell ⟨g, 1, none⟩ u) v acc := fun u => ownsRow_setCell_other hT2 (fun e => (HOB.out g e).2 rfl) _
                have HR3 := Lib.hid hR3
                have HT3 := Lib.hid hT3
                clear hR3 hT3
                cases behind with
                | none =>
                  unfold bInt
                  go_wp2_with fail
                  go_roundg (gmeas ⟨q, size, q, some (at' + 2), acc⟩)
                  case measure => exact HM.out
                  case rel => exact ⟨_, v, Nat.le_refl _, HG2.out, by simp only; omega, by simp only; omega, hsz, hacc, congrArg (Value.int .i64) (show (at' : Int) + 1 + 1 = ((at' + 2 : Nat) : Int) by omega), (fun b hb => by injection hb with hb; subst hb; exact hps2), by rw [HQ.out], HR3.out _ (by rw [HQ.out]), HT3.out _, hB2.setCell hlo _, HOB.out⟩
                | some b =>
                  unfold bInt
                  have hb0 : (0 : Int) ≤ b := by omega
                  go_wp2_with fail
                  go_roundg (gmeas ⟨q, size, q, some b, acc⟩)
                  case measure => exact HM.out
                  case rel => exact ⟨_, v, Nat.le_refl _, HG2.out, by simp only; omega, by simp only; omega, hsz, hacc, rfl, fun b' hb' => HBH.out b' hb', by rw [HQ.out], HR3.out _ (by rw [HQ.out]), HT3.out _, hB2.setCell hlo _, HOB.out⟩
end Go.Proofs.Ytlmgdogblbigpaa
