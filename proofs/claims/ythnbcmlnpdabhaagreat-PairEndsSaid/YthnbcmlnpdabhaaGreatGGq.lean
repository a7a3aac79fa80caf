/-
  Layer 12 (packed): what a name's reading comes to, plainly; octet and label.
-/
import Derived.Test.YthnbcmlnpdabhaaGreatGAq
namespace Go.Proofs.YthnbcmlnpdabhaaGreat
open _root_.Go.Proofs.Tryz
open Go.RowKit
set_option maxRecDepth 100000
set_option linter.unusedVariables false
structure GS where
 at' : Nat
 size : Nat
 bound : Nat
 behind : Option Nat
 acc : List (List UInt8)
inductive GO where
 | go (s : GS)
 | err (e : Int)
 | ok (l : List (List UInt8)) (n : Nat)
def gstep (m : List UInt8) (s : GS) : GO :=
 if m.length ≤ s.at' then .err 1
 else if (m.getD s.at' 0).toNat = 0 then .ok s.acc (s.behind.getD (s.at' + 1))
 else if (m.getD s.at' 0).toNat ≤ 63 then
  if m.length < s.at' + 1 + (m.getD s.at' 0).toNat then .err 1
  else if 255 < s.size + ((m.getD s.at' 0).toNat + 1) then .err 3
  else .go { s with at' := s.at' + 1 + (m.getD s.at' 0).toNat, size := s.size + ((m.getD s.at' 0).toNat + 1), acc := s.acc ++ [(m.take (s.at' + 1 + (m.getD s.at' 0).toNat)).drop (s.at' + 1)] }
 else if (m.getD s.at' 0).toNat < 192 then .err 7
 else if m.length ≤ s.at' + 1 then .err 1
 else if s.bound ≤ (m.getD s.at' 0).toNat * 256 + (m.getD (s.at' + 1) 0).toNat - 49152 then .err 9
 else .go { s with at' := (m.getD s.at' 0).toNat * 256 + (m.getD (s.at' + 1) 0).toNat - 49152, bound := (m.getD s.at' 0).toNat * 256 + (m.getD (s.at' + 1) 0).toNat - 49152, behind := some (s.behind.getD (s.at' + 2)) }
inductive Gets (m : List UInt8) : GS → GO → Prop where
 | err {s e} : gstep m s = .err e → Gets m s (.err e)
 | ok {s l n} : gstep m s = .ok l n → Gets m s (.ok l n)
 | go {s s' o} : gstep m s = .go s' → Gets m s' o → Gets m s o
def gmeas (s : GS) : Nat := s.bound * 300 + (300 - s.size)
theorem gstep_lt {m : List UInt8} {s s' : GS} (h : gstep m s = .go s') (hs : s.size ≤ 255) : gmeas s' < gmeas s ∧ s'.size ≤ 255 := by
 unfold gstep at h
 repeat' split at h
 all_goals first
  | (injection h with h; subst h; simp only [gmeas]; constructor <;> omega)
  | exact GO.noConfusion h
theorem gets_err {m : List UInt8} {s : GS} {o : GO} {e : Int} (h : Gets m s o) (he : gstep m s = .err e) : o = .err e := by
 cases h <;> simp_all
theorem gets_ok {m : List UInt8} {s : GS} {o : GO} {l n} (h : Gets m s o) (he : gstep m s = .ok l n) : o = .ok l n := by
 cases h <;> simp_all
theorem gets_go {m : List UInt8} {s s' : GS} {o : GO} (h : Gets m s o) (he : gstep m s = .go s') : Gets m s' o := by
 cases h <;> simp_all
def RdAt (w : World) (g : Nat) (m : List UInt8) (a z : Nat) (v : Value) : Prop := Blk w g 363 [.string (bs m), .int .i64 a, .int .i64 z, v]
def stopP (e : Int) : List PanicEntry := [{ v := .iface 360 (.agg #[.int .i64 e]), recovered := false }]
def OctRet (m : List UInt8) (g a z : Nat) (v : Value) (w : World) (e : Ending) (w' : World) : Prop :=
 e = .returned (.int .i64 ((m.getD a 0).toNat : Int)) ∧ RdAt w' g m (a + 1) z v ∧ w.grownBy w' (some g) ∧ w'.heap.size = w.heap.size
def StopB (x : Int) (g : Nat) (w : World) (e : Ending) (w' : World) : Prop := e = .panicked (stopP x) ∧ w.grownBy w' (some g)
theorem octet_yes (g : Nat) (m : List UInt8) (a z : Nat) (v : Value) (w : World) (h : RdAt w g m a z v) (hl : m.length ≤ 4000000) (ha : a < m.length) :
  Calls prog 260 #[.pointer (some ⟨g, 0, none⟩)] w (OctRet m g a z v w) := by
 have c0 := h.cell_ 0 rfl
 have c1 := h.cell_ 1 rfl
 have f1 := h.frozen 1
 have ha' : (a : Int) < m.length := by omega
 have hd : m.getD a 0 = m[a] := by simp [ha]
 go_enter func260, ntmps260
 go_wp2_with fail
 go_quiet (fail)
 go_wp2_with fail
 go_quiet (fail)
 go_wp2_with fail
 go_ret
 refine ⟨?_, ?_, grown_drewN (grown_set (grown_drewN (World.grownBy.refl _ _) _) _ _) _, by simp [World.setCell]⟩
 ·
  rw [hd]; exact ret_int (IntWalk.wrap64_in _ (by have := m[a].toNat_lt; omega))
 ·
  exact ((h.drewN _).set 1 _).drewN _
theorem octet_no (g : Nat) (m : List UInt8) (a z : Nat) (v : Value) (w : World) (h : RdAt w g m a z v) (hl : m.length ≤ 4000000) (ha : m.length ≤ a) :
  Calls prog 260 #[.pointer (some ⟨g, 0, none⟩)] w (StopB 1 g w) := by
 have c0 := h.cell_ 0 rfl
 have c1 := h.cell_ 1 rfl
 have ha' : (m.length : Int) ≤ a := by omega
 go_enter func260, ntmps260
 go_wp2_with fail
 go_quiet (fail)
 go_wp2_with fail
 exact ⟨rfl, rfl, grown_drewN (World.grownBy.refl _ _) _⟩
def LabRet (m : List UInt8) (g a z c : Nat) (l : List (List UInt8)) (lo : Nat) (w : World) (e : Ending) (w' : World) : Prop :=
 e = .returned (.tuple #[]) ∧ ∃ v, RdAt w' g m (a + c) (z + (c + 1)) v ∧ Txts w' v (l ++ [(m.take (a + c)).drop a]) ∧ Below lo w w' ∧ (∀ k, v.ownBlock = some k → lo ≤ k ∧ k ≠ g)
theorem label_short (g : Nat) (m : List UInt8) (a z c : Nat) (v : Value) (w : World) (h : RdAt w g m a z v) (hl : m.length ≤ 4000000) (ha : a ≤ m.length) (hc : c ≤ 63) (hs : m.length < a + c) :
  Calls prog 261 #[.pointer (some ⟨g, 0, none⟩), .int .i64 c] w (StopB 1 g w) := by
 have c0 := h.cell_ 0 rfl
 have c1 := h.cell_ 1 rfl
 have hs' : (m.length : Int) - a < c := by omega
 go_enter func261, ntmps261
 go_wp2_with fail
 go_quiet (fail)
 go_wp2_with fail
 exact ⟨rfl, rfl, grown_drewN (World.grownBy.refl _ _) _⟩
def LabAny (m : List UInt8) (g a z c : Nat) (l : List (List UInt8)) (lo : Nat) (w : World) (e : Ending) (w' : World) : Prop :=
 (z + (c + 1) ≤ 255 ∧ LabRet m g a z c l lo w e w') ∨ (255 < z + (c + 1) ∧ e = .panicked (stopP 3) ∧ Below lo w w')
def LabMid (m : List UInt8) (g a z c : Nat) (l : List (List UInt8)) (lo : Nat) (w wx : World) : Prop :=
 ∃ v, RdAt wx g m a z v ∧ Txts wx v (l ++ [(m.take (a + c)).drop a]) ∧ Below lo w wx ∧ (∀ k, v.ownBlock = some k → lo ≤ k ∧ k ≠ g)
theorem labMid {m : List UInt8} {g a z c gg cap : Nat} {l : List (List UInt8)} {lo : Nat} {w W w1 : World} {v : Value} {o : Obj} (h1 : RdAt w1 g m a z v) (hB : Below lo w W) (hlo : lo ≤ g) (hgl : g < W.heap.size)
  (hOB : Hid (∀ k, v.ownBlock = some k → lo ≤ k ∧ k ≠ g))
  (hown : w1.ownsRow 0 9 1 (.slice (some ⟨gg, 0, none⟩) (l.length + 1) cap) (l.length + 1) (l.map (fun t => Value.string (bs t)) ++ [.string (bs ((m.take (a + c)).drop a))]))
  (hgrow : (W.alloc o).drew.grownBy w1 v.ownBlock) (hat : v.ownBlock = some gg ∨ gg = W.heap.size + 1) :
  LabMid m g a z c l lo w (w1.setCell ⟨g, 3, none⟩ (.slice (some ⟨gg, 0, none⟩) (l.length + 1) cap)) := by
 have hne : gg ≠ g ∧ lo ≤ gg := by
  rcases hat with h | h
  ·
   have := hOB.out gg h; exact ⟨this.2, this.1⟩
  ·
   have := hB.size; omega
 refine ⟨_, h1.set 3 _, ?_, ?_, ?_⟩
 ·
  have := ownsRow_setCell_other hown (a := ⟨g, 3, none⟩) (by simp [Value.ownBlock]; omega) (.slice (some ⟨gg, 0, none⟩) (l.length + 1) cap)
  unfold Txts
  simpa using this
 ·
  refine Below.setCell ?_ hlo _
  exact (hB.alloc (by omega) o).drew.grown hgrow (by simp; omega) (fun k hk => (hOB.out k hk).1)
 ·
  intro k hk
  simp [Value.ownBlock] at hk
  omega
set_option maxHeartbeats 8000000 in
theorem label_yes (g : Nat) (m : List UInt8) (a z c : Nat) (v : Value) (l : List (List UInt8)) (lo : Nat) (w : World) (h : RdAt w g m a z v) (ht : Txts w v l) (hlo : lo ≤ g) (hob : ∀ k, v.ownBlock = some k → lo ≤ k ∧ k ≠ g) (hl : m.length ≤ 4000000) (hll : l.length ≤ 300) (hz : z ≤ 255)  (hc : c ≤ 63) (hs : a + c ≤ m.length) :
  Calls prog 261 #[.pointer (some ⟨g, 0, none⟩), .int .i64 c] w (LabAny m g a z c l lo w) := by
 have c0 := h.cell_ 0 rfl
 have c1 := h.cell_ 1 rfl
 have c3 := h.cell_ 3 rfl
 have hs' : (c : Int) ≤ (m.length : Int) - a := by omega
 have hs2 : (a : Int) + c ≤ m.length := by omega
 go_enter func261, ntmps261
 go_wp2_with fail
 go_quiet (fail)
 go_upto_region 2 with fail
 obtain ⟨i0, hi0, hz0, hz1, hz2⟩ := info_parts strInfo
 obtain ⟨W, hW⟩ : ∃ W, W = w.drewN nq := ⟨_, rfl⟩
 rw [← hW]
 have h' : RdAt W g m a z v := hW ▸ h.drewN _
 have ht' : Txts W v l := hW ▸ ht
 have hB : Below lo w W := hW ▸ below_drewN (Below.refl _ _) _
 have hOB := Hh hob
 clear hW h ht hob c0 c1 c3
 have hgl := h'.lt
 go_cut [] (fun wx => LabMid m g a z c l lo w wx)
 case first =>
  have c0 := h'.cell_ 0 rfl
  have c1 := h'.cell_ 1 rfl
  have c3 := h'.cell_ 3 rfl
  have f3 := h'.frozen 3
  have hw1 : IntKind.i64.wrap ((a : Int) + c) = (a : Int) + c := IntWalk.i64_in _ (by omega)
  have hn1 : ((a : Int) + c).toNat = a + c := by omega
  have hp1 : (0 : Int) ≤ (a : Int) + c := by omega
  have hp2 : (a : Int) ≤ (a : Int) + c := by omega
  have hne : some g ≠ v.ownBlock := fun e => (hOB.out g e.symm).2 rfl
  go_region_law (refine step_append_lies _ rfl (.tmp 22) (.tmp 38) _ (by rfl) 0 9 i0 _ 1 16 underlying26 hi0 hz0 hz1 hz2 rfl (by decide) v l.length _ (by rfl) (World.ownsRow.alloc ht' _) ⟨W.heap.size, 0, none⟩ 1 1 [.string (bs ((m.take (a + c)).drop a))] (by rfl) (by rfl) (new_one _ _ _ _ rfl) (by simp [Value.oneCell']) (by omega) (by simp only [maxLen]; omega) (by omega) (Nat.zero_le _) (W.heap.size + 1) (by simp) ?_; intro gg cap w1 hown1 hgrow hat hlt; have h1 : RdAt w1 g m a z v := (Blk.alloc (Blk.drew h') _).grown hgrow hne; have k3 := h1.cell_ 3 rfl; have kf := h1.frozen 3; clear c0 c1 c3)
  all_goals (go_wp2_with fail; go_meet; exact labMid h1 hB hlo hgl hOB hown1 hgrow hat)
 case rest =>
  obtain ⟨v', h2, ht2, hB2, hob2⟩ := hcut
  clear h' ht' hB hOB
  have c1 := h2.cell_ 1 rfl
  have c2 := h2.cell_ 2 rfl
  have f1 := h2.frozen 1
  have f2 := h2.frozen 2
  have HOB := Hh hob2
  clear hob2
  by_cases hz3 : z + (c + 1) ≤ 255
  ·
   have hz3' : (z : Int) + ((c : Int) + 1) ≤ 255 := by omega
   go_wp2_with fail
   go_end0
   refine .inl ⟨hz3, rfl, v', ?_, ?_, (hB2.setCell hlo _).setCell hlo _, HOB.out⟩
   ·
    have := (h2.set 1 (.int .i64 ((a : Int) + c))).set 2 (.int .i64 ((z : Int) + (c + 1)))
    unfold RdAt
    rw [show ((a + c : Nat) : Int) = (a : Int) + c by omega, show ((z + (c + 1) : Nat) : Int) = (z : Int) + (c + 1) by omega]
    exact this
   ·
    have hk : ∀ k, v'.ownBlock = some k → k ≠ g := fun k hk => (HOB.out k hk).2
    exact ownsRow_setCell_other (ownsRow_setCell_other ht2 (fun e => hk g e rfl) _) (fun e => hk g e rfl) _
  ·
   have hz3' : (255 : Int) < (z : Int) + ((c : Int) + 1) := by omega
   go_wp2_with fail
   exact ⟨rfl, .inr ⟨by omega, rfl, (hB2.setCell hlo _).setCell hlo _⟩⟩
def ReadRet (m : List UInt8) (g lo : Nat) (w : World) (o : GO) (e : Ending) (w' : World) : Prop :=
 match o with
 | .err x => e = .panicked (stopP x) ∧ Below lo w w'
 | .ok l n => e = .returned (.int .i64 n) ∧ ∃ v a z, RdAt w' g m a z v ∧ Txts w' v l ∧ Below lo w w' ∧ (∀ k, v.ownBlock = some k → lo ≤ k ∧ k ≠ g)
 | .go _ => False
def bInt : Option Nat → Int
 | none => -1
 | some b => b
def RdInv (m : List UInt8) (g lo : Nat) (w : World) (o : GO) (k : Nat) (behind bound : Value) (wr : World) : Prop :=
 ∃ (s : GS) (v : Value), gmeas s ≤ k ∧ Gets m s o ∧ s.at' ≤ m.length ∧ s.bound ≤ m.length ∧ s.size ≤ 255 ∧ s.acc.length ≤ s.size ∧ behind = .int .i64 (bInt s.behind) ∧ (∀ b, s.behind = some b → b ≤ m.length) ∧ bound = .int .i64 s.bound ∧
  RdAt wr g m s.at' s.size v ∧ Txts wr v s.acc ∧ Below lo w wr ∧ (∀ k, v.ownBlock = some k → lo ≤ k ∧ k ≠ g)
theorem gstep_next {m : List UInt8} {s s' : GS} {o : GO} (hg : Gets m s o) (h : gstep m s = .go s') (hs : s.size ≤ 255) : Gets m s' o ∧ gmeas s' < gmeas s := ⟨gets_go hg h, (gstep_lt h hs).1⟩
section
variable {m : List UInt8} {at' size bound c : Nat} {behind : Option Nat} {acc : List (List UInt8)}
theorem gs_zero (h1 : ¬ m.length ≤ at') (hc : 0 = (m.getD at' 0).toNat) : gstep m ⟨at', size, bound, behind, acc⟩ = .ok acc (behind.getD (at' + 1)) := by
 unfold gstep; simp only; rw [if_neg h1, if_pos hc.symm]
theorem gs_short (h1 : ¬ m.length ≤ at') (hc : c = (m.getD at' 0).toNat) (h0 : c ≠ 0) (h63 : c ≤ 63) (hs : m.length < at' + 1 + c) : gstep m ⟨at', size, bound, behind, acc⟩ = .err 1 := by
 unfold gstep; simp only; rw [← hc, if_neg h1, if_neg h0, if_pos h63, if_pos hs]
theorem gs_long (h1 : ¬ m.length ≤ at') (hc : c = (m.getD at' 0).toNat) (h0 : c ≠ 0) (h63 : c ≤ 63) (hs : ¬ m.length < at' + 1 + c) (hz : 255 < size + (c + 1)) : gstep m ⟨at', size, bound, behind, acc⟩ = .err 3 := by
 unfold gstep; simp only; rw [← hc, if_neg h1, if_neg h0, if_pos h63, if_neg hs, if_pos hz]
theorem gs_lab (h1 : ¬ m.length ≤ at') (hc : c = (m.getD at' 0).toNat) (h0 : c ≠ 0) (h63 : c ≤ 63) (hs : ¬ m.length < at' + 1 + c) (hz : ¬ 255 < size + (c + 1)) :
  gstep m ⟨at', size, bound, behind, acc⟩ = .go ⟨at' + 1 + c, size + (c + 1), bound, behind, acc ++ [(m.take (at' + 1 + c)).drop (at' + 1)]⟩ := by
 unfold gstep; simp only; rw [← hc, if_neg h1, if_neg h0, if_pos h63, if_neg hs, if_neg hz]
theorem gs_bad (h1 : ¬ m.length ≤ at') (hc : c = (m.getD at' 0).toNat) (h63 : ¬ c ≤ 63) (h192 : c < 192) : gstep m ⟨at', size, bound, behind, acc⟩ = .err 7 := by
 unfold gstep; simp only; rw [← hc, if_neg h1, if_neg (by omega), if_neg h63, if_pos h192]
theorem gs_pshort (h1 : ¬ m.length ≤ at') (hc : c = (m.getD at' 0).toNat) (h192 : ¬ c < 192) (hs : m.length ≤ at' + 1) : gstep m ⟨at', size, bound, behind, acc⟩ = .err 1 := by
 unfold gstep; simp only; rw [← hc, if_neg h1, if_neg (by omega), if_neg (by omega), if_neg h192, if_pos hs]
theorem gs_pbad {d : Nat} (h1 : ¬ m.length ≤ at') (hc : c = (m.getD at' 0).toNat) (h192 : ¬ c < 192) (hs : ¬ m.length ≤ at' + 1) (hd : d = (m.getD (at' + 1) 0).toNat) (hb : bound ≤ c * 256 + d - 49152) : gstep m ⟨at', size, bound, behind, acc⟩ = .err 9 := by
 unfold gstep; simp only; rw [← hc, ← hd, if_neg h1, if_neg (by omega), if_neg (by omega), if_neg h192, if_neg hs, if_pos hb]
theorem gs_ptr {d : Nat} (h1 : ¬ m.length ≤ at') (hc : c = (m.getD at' 0).toNat) (h192 : ¬ c < 192) (hs : ¬ m.length ≤ at' + 1) (hd : d = (m.getD (at' + 1) 0).toNat) (hb : ¬ bound ≤ c * 256 + d - 49152) :
  gstep m ⟨at', size, bound, behind, acc⟩ = .go ⟨c * 256 + d - 49152, size, c * 256 + d - 49152, some (behind.getD (at' + 2)), acc⟩ := by
 unfold gstep; simp only; rw [← hc, ← hd, if_neg h1, if_neg (by omega), if_neg (by omega), if_neg h192, if_neg hs, if_neg hb]
end
theorem RdAt.lt {w : World} {g : Nat} {m : List UInt8} {a z : Nat} {v : Value} (h : RdAt w g m a z v) : g < w.heap.size := Blk.lt h
theorem below_stop {lo g : Nat} {w wr w1 : World} (hB : Below lo w wr) (hg : wr.grownBy w1 (some g)) (hlt : g < wr.heap.size) (hlo : lo ≤ g) : Below lo w w1 := hB.grown hg (by omega) (by intro k hk; injection hk with hk; omega)
set_option maxHeartbeats 4000000 in
theorem read_any (g : Nat) (m : List UInt8) (a : Nat) (lo : Nat) (o : GO) (w : World) (h : RdAt w g m a 1 (.slice none 0 0)) (hlo : lo ≤ g) (hl : m.length ≤ 4000000) (ha : a ≤ m.length) (ho : Gets m ⟨a, 1, a, none, []⟩ o) :
  Calls prog 255 #[.pointer (some ⟨g, 0, none⟩)] w (ReadRet m g lo w o) := by
 have c1 := h.cell_ 1 rfl
 go_enter func255, ntmps255
 go_wp2_with fail
 go_loopg [3, 4] (gmeas ⟨a, 1, a, none, []⟩) (fun k behind bound wr => RdInv m g lo w o k behind bound wr)
 case atStart => exact ⟨⟨a, 1, a, none, []⟩, .slice none 0 0, Nat.le_refl _, ho, ha, ha, by simp, by simp, rfl, by simp, rfl, h, Txts.nil _, Below.refl _ _, by simp [Value.ownBlock]⟩
 case round =>
  clear c1 h ho
  obtain ⟨⟨at', size, bound, behind, acc⟩, v, hk, hG, hat, hbd, hsz, hacc, rfl, hbh, rfl, hR, hT, hB, hob⟩ := hrel
  simp only at hk hG hat hbd hsz hacc hbh hR hT
  have HG := Hh hG
  have HOB := Hh hob
  have HBH := Hh hbh
  clear hG hob hbh
  by_cases h1 : m.length ≤ at'
  ·
   have e1 : o = .err 1 := gets_err HG.out (by simp [gstep, h1])
   subst e1
   go_wp2_with fail
   refine (octet_no g m at' size v _ hR hl h1).mono ?_
   rintro e w1 ⟨rfl, hg⟩
   go_wp2_with fail
   exact ⟨rfl, rfl, hB.grown hg (by have := hR.lt; omega) (by intro k hk; injection hk with hk; omega)⟩
  ·
   have C := octet_yes g m at' size v wr hR hl (by omega)
   obtain ⟨c, hc⟩ : ∃ c, c = (m.getD at' 0).toNat := ⟨_, rfl⟩
   have hc255 : c < 256 := by rw [hc]; exact UInt8.toNat_lt _
   unfold OctRet at C
   rw [← hc] at C
   have HC := Hh hc
   clear hc
   go_wp2_with fail
   refine C.mono ?_
   rintro e w1 ⟨rfl, hR1, hg1, hs1⟩
   have hB1 : Below lo w w1 := hB.grown hg1 (by have := hR.lt; omega) (by intro k hk; injection hk with hk; omega)
   have hT1 : Txts w1 v acc := hT.grown hg1 hR (by decide)
   clear C hR hT hB hg1 hs1
   clear wr
   have hg1 := hR1.lt
   by_cases h0 : c = 0
   ·
    subst h0
    have r1 := hR1.cell_ 1 rfl
    cases behind with
    | none =>
     have e1 : o = .ok acc (at' + 1) := gets_ok HG.out (gs_zero h1 HC.out)
     subst e1
     unfold bInt
     go_wp2_with fail
     go_ret
     exact ⟨ret_int (by go_num), v, _, _, hR1, hT1, hB1, HOB.out⟩
    | some b =>
     have e1 : o = .ok acc b := gets_ok HG.out (gs_zero h1 HC.out)
     subst e1
     unfold bInt
     have hb0 : (0 : Int) ≤ b := by omega
     go_wp2_with fail
     go_ret
     exact ⟨rfl, v, _, _, hR1, hT1, hB1, HOB.out⟩
   ·
    have h0' : ((c : Int) == 0) = false := by simp; omega
    by_cases h63 : c ≤ 63
    ·
     have h63' : (c : Int) ≤ 63 := by omega
     by_cases hs : m.length < at' + 1 + c
     ·
      have e1 : o = .err 1 := gets_err HG.out (gs_short h1 HC.out h0 h63 hs)
      subst e1
      clear h0
      go_wp2_with fail
      refine (label_short g m (at' + 1) size c v _ hR1 hl (by omega) h63 (by omega)).mono ?_
      rintro e w2 ⟨rfl, hg⟩
      go_wp2_with fail
      exact ⟨rfl, rfl, below_stop hB1 hg hg1 hlo⟩
     ·
      have C := label_yes g m (at' + 1) size c v acc lo w1 hR1 hT1 hlo HOB.out hl (by omega) hsz h63 (by omega)
      by_cases hz : 255 < size + (c + 1)
      ·
       have e1 : o = .err 3 := gets_err HG.out (gs_long h1 HC.out h0 h63 hs hz)
       subst e1
       clear h0
       go_wp2_with fail
       refine C.mono ?_
       rintro e w2 (⟨h, _⟩ | ⟨_, rfl, hb⟩)
       ·
        omega
       go_wp2_with fail
       exact ⟨rfl, rfl, hB1.trans hb⟩
      ·
       obtain ⟨G2, M2⟩ := gstep_next HG.out (gs_lab h1 HC.out h0 h63 hs hz) hsz
       have HG2 := Hh G2
       have hm2 := Nat.lt_of_lt_of_le M2 hk
       clear h0 G2 M2
       go_wp2_with fail
       refine C.mono ?_
       rintro e w2 (⟨_, rfl, v2, hR2, hT2, hB2, ho2⟩ | ⟨h, _⟩)
       ·
        go_wp2_with fail
        go_roundg (gmeas ⟨at' + 1 + c, size + (c + 1), bound, behind, acc ++ [(m.take (at' + 1 + c)).drop (at' + 1)]⟩)
        case measure => exact hm2
        case rel => exact ⟨_, v2, Nat.le_refl _, HG2.out, by simp; omega, hbd, by simp; omega, by simp; omega, rfl, HBH.out, rfl, hR2, hT2, hB1.trans hB2, ho2⟩
       ·
        omega
    ·
     have h63' : (63 : Int) < c := by omega
     by_cases h192 : c < 192
     ·
      have h192' : (c : Int) < 192 := by omega
      have e1 : o = .err 7 := gets_err HG.out (gs_bad h1 HC.out h63 h192)
      subst e1
      clear h0
      go_wp2_with fail
      exact ⟨rfl, rfl, hB1⟩
     ·
      have h192' : (192 : Int) ≤ c := by omega
      by_cases hps : m.length ≤ at' + 1
      ·
       have e1 : o = .err 1 := gets_err HG.out (gs_pshort h1 HC.out h192 hps)
       subst e1
       clear h0
       go_wp2_with fail
       refine (octet_no g m (at' + 1) size v _ hR1 hl hps).mono ?_
       rintro e w2 ⟨rfl, hg⟩
       go_wp2_with fail
       exact ⟨rfl, rfl, below_stop hB1 hg hg1 hlo⟩
      ·
       have C := octet_yes g m (at' + 1) size v w1 hR1 hl (by omega)
       obtain ⟨d, hd⟩ : ∃ d, d = (m.getD (at' + 1) 0).toNat := ⟨_, rfl⟩
       have hd255 : d < 256 := by rw [hd]; exact UInt8.toNat_lt _
       unfold OctRet at C
       rw [← hd] at C
       have HD := Hh hd
       clear hd h0
       go_wp2_with fail
       refine C.mono ?_
       rintro e w2 ⟨rfl, hR2, hg2, hs2⟩
       have hB2 : Below lo w w2 := below_stop hB1 hg2 hg1 hlo
       have hT2 : Txts w2 v acc := hT1.grown hg2 hR1 (by decide)
       clear C hR1 hT1 hB1 hg2 hs2 hg1
       clear w1
       have r1 := hR2.cell_ 1 rfl
       have fr1 := hR2.frozen 1
       by_cases hpb : bound ≤ c * 256 + d - 49152
       ·
        have e1 : o = .err 9 := gets_err HG.out (gs_pbad h1 HC.out h192 hps HD.out hpb)
        subst e1
        have hpb' : (bound : Int) ≤ (c : Int) * 256 + d - 49152 := by omega
        go_wp2_with fail
        exact ⟨rfl, rfl, hB2⟩
       ·
        obtain ⟨G2, M2⟩ := gstep_next HG.out (gs_ptr h1 HC.out h192 hps HD.out hpb) hsz
        have HG2 := Hh G2
        have HM := Hh (Nat.lt_of_lt_of_le M2 hk)
        have hpb' : (c : Int) * 256 + d - 49152 < bound := by omega
        clear G2 M2
        obtain ⟨q, hq⟩ : ∃ q, q = c * 256 + d - 49152 := ⟨_, rfl⟩
        rw [← hq] at HG2 HM
        have hqi : (c : Int) * 256 + d - 49152 = q := by omega
        have HQ := Hh hqi
        have hqb : q < bound := by omega
        have hps2 : at' + 2 ≤ m.length := by omega
        clear hq hqi hpb h1 hps hk
        have hR3 : ∀ u, u = Value.int .i64 (q : Int) → RdAt (w2.setCell ⟨g, 1, none⟩ u) g m q size v := fun u hu => by subst hu; exact hR2.set 1 _
        have hT3 : ∀ u, Txts (w2.setCell ⟨g, 1, none⟩ u) v acc := fun u => ownsRow_setCell_other hT2 (fun e => (HOB.out g e).2 rfl) _
        have HR3 := Hh hR3
        have HT3 := Hh hT3
        clear hR3 hT3
        cases behind with
        | none =>
         unfold bInt
         go_wp2_with fail
         go_roundg (gmeas ⟨q, size, q, some (at' + 2), acc⟩)
         case measure => exact HM.out
         case rel => exact ⟨_, v, Nat.le_refl _, HG2.out, by simp only; omega, by simp only; omega, hsz, hacc, congrArg (Value.int .i64) (show (at' : Int) + 1 + 1 = ((at' + 2 : Nat) : Int) by omega), (fun b hb => by injection hb with hb; subst hb; exact hps2), by rw [HQ.out], HR3.out _ (by rw [HQ.out]), HT3.out _, hB2.setCell hlo _, HOB.out⟩
        | some b =>
         unfold bInt
         have hb0 : (0 : Int) ≤ b := by omega
         go_wp2_with fail
         go_roundg (gmeas ⟨q, size, q, some b, acc⟩)
         case measure => exact HM.out
         case rel => exact ⟨_, v, Nat.le_refl _, HG2.out, by simp only; omega, by simp only; omega, hsz, hacc, rfl, fun b' hb' => HBH.out b' hb', by rw [HQ.out], HR3.out _ (by rw [HQ.out]), HT3.out _, hB2.setCell hlo _, HOB.out⟩
theorem wpS_rest {P : Program} {fn : Func} {c₀ : Frame} {cs : List Frame} {R : Ending → FrameMode → World → Prop} {u' : FrameMode} {c : Code} {a : Act} {w : World}
  (h : c.wp P (bodyPost P fn (fun e w' => R e u' w')) a w) : c.wpS P (bodyPostS P fn c₀ cs R) a ({ c₀ with mode := u' } :: cs) w := by
 refine wpS_of_wp (Code.wp_mono ?_ h)
 intro e a' w' hq
 cases e with
 | normal => exact ⟨hq.1, u', rfl, hq.2⟩
 | ret => exact ⟨hq.1, u', rfl, hq.2⟩
 | panic ch => exact ⟨hq.1, u', rfl, hq.2⟩
 | outgrown => exact ⟨u', hq⟩
 | exit id => exact hq
 | goto l => exact hq
theorem wpS_rest0 {P : Program} {fn : Func} {c₀ : Frame} {cs : List Frame} {R : Ending → FrameMode → World → Prop} {u : FrameMode} {c : Code} {a : Act} {w : World} (hu : c₀.mode = u)
  (h : c.wp P (bodyPost P fn (fun e w' => R e u w')) a w) : c.wpS P (bodyPostS P fn c₀ cs R) a (c₀ :: cs) w := by
 have := wpS_rest (c₀ := c₀) (cs := cs) h
 cases c₀; simp at hu; subst hu; exact this
theorem wp_tmps {P : Program} {Q : Exit → Act → World → Prop} {c : Code} {t : Array Value} {d : List Deferred} {w : World} (l : List Value) (e : t = l.toArray) (h : c.wp P Q ⟨l.toArray, d⟩ w) : c.wp P Q ⟨t, d⟩ w := e ▸ h
theorem get1_idle (p q r : Addr) (w : World) :
  CallsD prog 254 #[.pointer (some p), .pointer (some q), .pointer (some r)] .returning w fun e u' w' => e = .returned (.tuple #[]) ∧ u' = .returning ∧ w' = w := by
 refine callsD_of_wpS func254 rfl fun c₀ cs hu => ?_
 apply wpS_seq
 apply wpS_region
 simp [wpOpsS, go_sem, recoverD, hu, ntmps254, Exit.thenS]
 refine wpS_rest0 hu ?_
 refine wp_tmps [.pointer (some p), .pointer (some q), .pointer (some r), .nilIface, undef, undef, .nilIface, undef, undef, undef, undef, undef, undef, undef, undef, undef, undef, undef, undef] (by rfl) ?_
 clear hu
 go_wp2
 first | go_end0 | refine bodyPost_ret (results_none rfl _ _ _) rfl ?_
 first | exact ⟨rfl, rfl, rfl⟩ | exact ⟨rfl, rfl⟩ | rfl
def Caught (b0 : Nat) (x : Int) (w w' : World) : Prop := Blk w' b0 26 [.slice none 0 0] ∧ Blk w' (b0 + 1) 3 [.int .i64 0] ∧ Blk w' (b0 + 2) 142 [.int .i64 x] ∧ Below b0 w w'
theorem get1_stop (b0 : Nat) (v0 v1 v2 : Value) (x : Int) (w : World) (h0 : Blk w b0 26 [v0]) (h1 : Blk w (b0 + 1) 3 [v1]) (h2 : Blk w (b0 + 2) 142 [v2]) :
  CallsD prog 254 #[.pointer (some ⟨b0, 0, none⟩), .pointer (some ⟨b0 + 1, 0, none⟩), .pointer (some ⟨b0 + 2, 0, none⟩)] (.panicking (stopP x)) w fun e u' w' =>
   e = .returned (.tuple #[]) ∧ u' = .panicking [{ v := .iface 360 (.agg #[.int .i64 x]), recovered := true }] ∧ Caught b0 x w w' := by
 have hTa : ∀ w : World, (Instr.typeAssert (.iface 360 (.agg #[.int .i64 x])) 20 360 true).run prog w = .ok (.tuple #[.agg #[.int .i64 x], .bool true]) w := fun _ => by kernel_rfl
 have c0 := h0.cell_ 0 rfl
 have c1 := h1.cell_ 0 rfl
 have c2 := h2.cell_ 0 rfl
 have f0 := h0.frozen 0
 have f1 := h1.frozen 0
 have f2 := h2.frozen 0
 refine callsD_of_wpS func254 rfl fun c₀ cs hu => ?_
 unfold stopP at hu
 apply wpS_seq
 apply wpS_region
 simp [wpOpsS, go_sem, recoverD, hu, ntmps254, Exit.thenS]
 refine wpS_rest (u' := .panicking [{ v := .iface 360 (.agg #[.int .i64 x]), recovered := true }]) ?_
 refine wp_tmps [.pointer (some ⟨b0, 0, none⟩), .pointer (some ⟨b0 + 1, 0, none⟩), .pointer (some ⟨b0 + 2, 0, none⟩), .iface 360 (.agg #[.int .i64 x]), undef, undef, .iface 360 (.agg #[.int .i64 x]), undef, undef, undef, undef, undef, undef, undef, undef, undef, undef, undef, undef] (by rfl) ?_
 clear hu
 have l0 := h0.lt
 have l1 := h1.lt
 have l2 := h2.lt
 go_wp2
 go_region
 all_goals go_end0
 all_goals
  refine ⟨rfl, rfl, Blk.drew (Blk.alloc (Blk.far (Blk.far (h0.set 0 _) (by simp) _) (by simp) _) _), Blk.drew (Blk.alloc (Blk.far (Blk.set (h1.far (by simp) _) 0 _) (by simp) _) _), Blk.drew (Blk.alloc (Blk.set (Blk.far (h2.far (by simp) _) (by simp) _) 0 _) _), ?_⟩
  exact (((((Below.refl _ _).setCell (by simp) _).setCell (by simp) _).setCell (by simp) _).alloc (by simp; omega) _).drew
def gres (m : List UInt8) : Nat → GS → GO
 | 0, _ => .err 15
 | k + 1, s => match gstep m s with
  | .go s' => gres m k s'
  | .err e => .err e
  | .ok l n => .ok l n
theorem gets_gres (m : List UInt8) : ∀ (k : Nat) (s : GS), gmeas s < k → s.size ≤ 255 → Gets m s (gres m k s) := by
 intro k
 induction k with
 | zero => intro s h; omega
 | succ k ih =>
  intro s h hs
  unfold gres
  cases e : gstep m s with
  | err x => exact .err e
  | ok l n => exact .ok e
  | go s' =>
   obtain ⟨h1, h2⟩ := gstep_lt e hs
   exact .go e (ih s' (by omega) h2)
theorem gets_fun {m : List UInt8} {s : GS} {o o' : GO} (h : Gets m s o) (h' : Gets m s o') : o = o' := by
 induction h with
 | err e => exact (gets_err h' e).symm
 | ok e => exact (gets_ok h' e).symm
 | go e _ ih => exact ih (gets_go h' e)
def gresAt (m : List UInt8) (a : Nat) : GO := gres m (a * 300 + 300) ⟨a, 1, a, none, []⟩
theorem gets_at (m : List UInt8) (a : Nat) : Gets m ⟨a, 1, a, none, []⟩ (gresAt m a) := gets_gres m _ _ (by simp [gmeas]) (by simp)
def outR (m : List UInt8) (at_ : Int) : Bool := decide (at_ < 0) || decide ((m.length : Int) < at_)
def goN : GO → List (List UInt8)
 | .ok l _ => l
 | _ => []
def goB : GO → Int
 | .ok _ n => n
 | _ => 0
def goE : GO → Int
 | .ok _ _ => 0
 | .err e => e
 | .go _ => 0
def pget (m : List UInt8) (at_ : Int) : GO := if outR m at_ then .err 4 else gresAt m at_.toNat
def GetRet (o : GO) (w : World) (e : Ending) (w' : World) : Prop :=
 ∃ v, e = .returned (.tuple #[v, .int .i64 (goB o), .int .i64 (goE o)]) ∧ Txts w' v (goN o) ∧ Below w.heap.size w w' ∧ (∀ k, v.ownBlock = some k → w.heap.size ≤ k)
theorem get_out (m : List UInt8) (at_ : Int) (w : World) (h : outR m at_ = true) :
  Calls prog 249 #[.string (bs m), .int .i64 at_] w (GetRet (.err 4) w) := by
 have hb : at_ < 0 ∨ (0 ≤ at_ ∧ (m.length : Int) < at_) := by
  simp [outR] at h; omega
 clear h
 have hmf : ∀ (fn : Fn) (first cap : Array Value) (w : World), (Instr.makeFunc fn first cap).run prog w = .ok (.func fn first cap) w := fun _ _ _ _ => rfl
 rcases hb with h | ⟨h0, h⟩
 all_goals
  go_enter_defers func249, ntmps249
  go_wp2_with fail
  simp [bodyPostD, Leaves, results, Tryz.results249, go_sem]
  exact ⟨_, rfl, Txts.nil _, (((Below.refl _ _).alloc (Nat.le_refl _) _).alloc (by simp) _).alloc (by simp; omega) _, by simp [Value.ownBlock]⟩
set_option maxHeartbeats 1000000 in
theorem get_in (m : List UInt8) (a : Nat) (w : World) (hl : m.length ≤ 4000000) (ha : a ≤ m.length) (o : GO) (ho : Gets m ⟨a, 1, a, none, []⟩ o) :
  Calls prog 249 #[.string (bs m), .int .i64 a] w (GetRet o w) := by
 have ha' : (a : Int) ≤ m.length := by omega
 have ha0 : (0 : Int) ≤ a := by omega
 have hmf : ∀ (fn : Fn) (first cap : Array Value) (w : World), (Instr.makeFunc fn first cap).run prog w = .ok (.func fn first cap) w := fun _ _ _ _ => rfl
 go_enter_defers func249, ntmps249
 go_wp2_with fail
 refine (read_any _ m a (w.heap.size + 1 + 1 + 1) o _ (Blk.new' _ _ [.string (bs m), .int .i64 a, .int .i64 1, .slice none 0 0] _ (by simp)) (Nat.le_refl _) hl ha ho).mono ?_
 have n0 : ∀ o1 o2 o3, Blk ((((w.alloc (.cells #[.slice none 0 0] 26)).alloc o1).alloc o2).alloc o3) w.heap.size 26 [.slice none 0 0] := fun o1 o2 o3 => (((Blk.new w _ [.slice none 0 0]).alloc _).alloc _).alloc _
 have n1 : ∀ o2 o3, Blk ((((w.alloc (.cells #[.slice none 0 0] 26)).alloc (.cells #[.int .i64 0] 3)).alloc o2).alloc o3) (w.heap.size + 1) 3 [.int .i64 0] := fun o2 o3 => ((Blk.new' _ _ [.int .i64 0] _ (by simp)).alloc _).alloc _
 have n2 : ∀ o3, Blk ((((w.alloc (.cells #[.slice none 0 0] 26)).alloc (.cells #[.int .i64 0] 3)).alloc (.cells #[.int .i64 0] 142)).alloc o3) (w.heap.size + 1 + 1) 142 [.int .i64 0] := fun o3 => (Blk.new' _ _ [.int .i64 0] _ (by simp)).alloc _
 have hB0 : ∀ o1 o2 o3 o4, Below w.heap.size w ((((w.alloc o1).alloc o2).alloc o3).alloc o4) := fun o1 o2 o3 o4 => ((((Below.refl _ _).alloc (Nat.le_refl _) _).alloc (by simp) _).alloc (by simp; omega) _).alloc (by simp; omega) _
 cases o with
 | go s => intro e w1 h; exact False.elim h
 | err x =>
  rintro e w1 ⟨rfl, hB⟩
  have k0 := (n0 _ _ _).below hB (by omega)
  have k1 := (n1 _ _).below hB (by omega)
  have k2 := (n2 _).below hB (by omega)
  have hB1 : Below w.heap.size w w1 := (hB0 _ _ _ _).trans (hB.mono (by omega))
  clear n0 n1 n2 hB0 hB
  go_wp2_with fail
  refine leaves_cons (f := 254) (args := #[.pointer (some ⟨w.heap.size, 0, none⟩), .pointer (some ⟨w.heap.size + 1, 0, none⟩), .pointer (some ⟨w.heap.size + 1 + 1, 0, none⟩)]) (by simp) (by simp [go_sem]) ?_
  refine (get1_stop w.heap.size _ _ _ x _ k0 k1 k2).mono ?_
  rintro e u' w2 ⟨rfl, rfl, c0, c1, c2, hB2⟩
  have v0 := c0.cell_ 0 rfl
  have v1 := c1.cell_ 0 rfl
  have v2 := c2.cell_ 0 rfl
  simp [Leaves, settle, results, Tryz.results249, go_sem, v0, v1, v2]
  exact ⟨_, rfl, Txts.nil _, hB1.trans hB2, by simp [Value.ownBlock]⟩
 | ok l n =>
  rintro e w1 ⟨rfl, v, a', z', hR, hT, hB, hob⟩
  obtain ⟨A, c, hv, -, -⟩ := hT.form
  rw [hv] at hR hT hob
  clear hv
  have k0 := (n0 _ _ _).below hB (by omega)
  have k1 := (n1 _ _).below hB (by omega)
  have k2 := (n2 _).below hB (by omega)
  have hB1 : Below w.heap.size w w1 := (hB0 _ _ _ _).trans (hB.mono (by omega))
  have HOB := Hh hob
  clear n0 n1 n2 hB0 hB hob
  have u3 := hR.cell_ 3 rfl
  have v0 := k0.cell_ 0 rfl
  have v1 := k1.cell_ 0 rfl
  have v2 := k2.cell_ 0 rfl
  have f0 := k0.frozen 0
  have f1 := k1.frozen 0
  have f2 := k2.frozen 0
  go_wp2_with fail
  go_region
  go_wp2_with fail
  refine leaves_cons (f := 254) (args := #[.pointer (some ⟨w.heap.size, 0, none⟩), .pointer (some ⟨w.heap.size + 1, 0, none⟩), .pointer (some ⟨w.heap.size + 1 + 1, 0, none⟩)]) (by simp) (by simp [go_sem]) ?_
  refine (get1_idle _ _ _ _).mono ?_
  rintro e u' w2 ⟨rfl, rfl, rfl⟩
  simp [Leaves, settle, results, Tryz.results249, go_sem, v0, v1, v2]
  have far : ∀ {W : World} {b : Nat} (u : Value), b < w.heap.size + 1 + 1 + 1 → Txts W (.slice A l.length c) l → Txts (W.setCell ⟨b, 0, none⟩ u) (.slice A l.length c) l := fun {W} {b} u hb hT => ownsRow_setCell_other hT (fun e => by have := (HOB.out b e).1; omega) _
  refine ⟨_, rfl, far _ (by omega) (far _ (by omega) (far _ (by omega) (far _ (by omega) hT))), ?_, fun k hk => by have := (HOB.out k hk).1; omega⟩
  exact ((((hB1.setCell (by simp) _).setCell (by simp) _).setCell (by simp) _).setCell (by simp; omega) _).drew
theorem get_any (m : List UInt8) (at_ : Int) (w : World) (hl : m.length ≤ 4000000) :
  Calls prog 249 #[.string (bs m), .int .i64 at_] w (GetRet (pget m at_) w) := by
 unfold pget
 cases h : outR m at_ with
 | true => rw [if_pos rfl]; exact get_out m at_ w h
 | false =>
  rw [if_neg (by simp)]
  have hb : 0 ≤ at_ ∧ at_ ≤ m.length := by simp [outR] at h; omega
  have := get_in m at_.toNat w hl (by omega) _ (gets_at m at_.toNat)
  rwa [Int.toNat_of_nonneg hb.1] at this
end Go.Proofs.YthnbcmlnpdabhaaGreat
