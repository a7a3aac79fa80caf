/-
  Layer 12 (packed): what a name's reading comes to, plainly; octet and label.
-/
import Derived.Test.YtlmgdogblbigpaaTxt
namespace Go.Proofs.Ytlmgdogblbigpaa
open Go.RowKit
set_option maxRecDepth 100000
set_option linter.unusedVariables false

/-- Where a reading stands. -/
structure GS where
  at' : Nat
  size : Nat
  bound : Nat
  behind : Option Nat
  acc : List (List UInt8)
/-- What one step comes to. -/
inductive GO where
  | go (s : GS)
  | err (e : Int)
  | ok (l : List (List UInt8)) (n : Nat)
def gstep (m : List UInt8) (s : GS) : GO :=
  if m.length ≤ s.at' then .err 1
  else if (m.getD s.at' 0).toNat = 0 then .ok s.acc (s.behind.getD (s.at' + 1))
  else if (m.getD s.at' 0).toNat ≤ 63 then
    if m.length < s.at' + 1 + (m.getD s.at' 0).toNat then .err 1
    else if 255 < s.size + ((m.getD s.at' 0).toNat + 1) then .err 3
    else .go { s with at' := s.at' + 1 + (m.getD s.at' 0).toNat, size := s.size + ((m.getD s.at' 0).toNat + 1), acc := s.acc ++ [(m.take (s.at' + 1 + (m.getD s.at' 0).toNat)).drop (s.at' + 1)] }
  else if (m.getD s.at' 0).toNat < 192 then .err 7
  else if m.length ≤ s.at' + 1 then .err 1
  else if s.bound ≤ (m.getD s.at' 0).toNat * 256 + (m.getD (s.at' + 1) 0).toNat - 49152 then .err 9
  else .go { s with at' := (m.getD s.at' 0).toNat * 256 + (m.getD (s.at' + 1) 0).toNat - 49152, bound := (m.getD s.at' 0).toNat * 256 + (m.getD (s.at' + 1) 0).toNat - 49152, behind := some (s.behind.getD (s.at' + 2)) }
/-- What a whole reading comes to. -/
inductive Gets (m : List UInt8) : GS → GO → Prop where
  | err {s e} : gstep m s = .err e → Gets m s (.err e)
  | ok {s l n} : gstep m s = .ok l n → Gets m s (.ok l n)
  | go {s s' o} : gstep m s = .go s' → Gets m s' o → Gets m s o
def gmeas (s : GS) : Nat := s.bound * 300 + (300 - s.size)
theorem gstep_lt {m : List UInt8} {s s' : GS} (h : gstep m s = .go s') (hs : s.size ≤ 255) : gmeas s' < gmeas s ∧ s'.size ≤ 255 := by
  unfold gstep at h
  repeat' split at h
  all_goals first
    | (injection h with h; subst h; simp only [gmeas]; constructor <;> omega)
    | exact GO.noConfusion h
theorem gets_ex (m : List UInt8) : ∀ (k : Nat) (s : GS), gmeas s ≤ k → s.size ≤ 255 → ∃ o, Gets m s o := by
  intro k
  induction k with
  | zero => intro s h hs; unfold gmeas at h; omega
  | succ k ih =>
    intro s h hs
    cases e : gstep m s with
    | err x => exact ⟨_, .err e⟩
    | ok l n => exact ⟨_, .ok e⟩
    | go s' =>
      obtain ⟨h1, h2⟩ := gstep_lt e hs
      obtain ⟨o, ho⟩ := ih s' (by omega) h2
      exact ⟨o, .go e ho⟩
theorem gets_err {m : List UInt8} {s : GS} {o : GO} {e : Int} (h : Gets m s o) (he : gstep m s = .err e) : o = .err e := by
  cases h <;> simp_all
theorem gets_ok {m : List UInt8} {s : GS} {o : GO} {l n} (h : Gets m s o) (he : gstep m s = .ok l n) : o = .ok l n := by
  cases h <;> simp_all
theorem gets_go {m : List UInt8} {s s' : GS} {o : GO} (h : Gets m s o) (he : gstep m s = .go s') : Gets m s' o := by
  cases h <;> simp_all
theorem gets_not_go {m : List UInt8} {s : GS} {o : GO} (h : Gets m s o) : ∀ s', o ≠ .go s' := by
  induction h with
  | err _ => intro s' h; cases h
  | ok _ => intro s' h; cases h
  | go _ _ ih => exact ih

/-- A reader. -/
def RdAt (w : World) (g : Nat) (m : List UInt8) (a z : Nat) (v : Value) : Prop := Blk w g 103 [.string (bs m), .int .i64 a, .int .i64 z, v]
/-- What breaks off a reading. -/
def stopP (e : Int) : List PanicEntry := [{ v := .iface 100 (.agg #[.int .i64 e]), recovered := false }]

def OctRet (m : List UInt8) (g a z : Nat) (v : Value) (w : World) (e : Ending) (w' : World) : Prop :=
  e = .returned (.int .i64 ((m.getD a 0).toNat : Int)) ∧ RdAt w' g m (a + 1) z v ∧ w.grownBy w' (some g) ∧ w'.heap.size = w.heap.size
/-- The call panics with stop e. -/
def StopB (x : Int) (g : Nat) (w : World) (e : Ending) (w' : World) : Prop := e = .panicked (stopP x) ∧ w.grownBy w' (some g)

theorem octet_yes (g : Nat) (m : List UInt8) (a z : Nat) (v : Value) (w : World) (h : RdAt w g m a z v) (hl : m.length ≤ 70000) (ha : a < m.length) :
    Calls Try.prog 102 #[.pointer (some ⟨g, 0, none⟩)] w (OctRet m g a z v w) := by
  have c0 := h.cell_ 0 rfl
  have c1 := h.cell_ 1 rfl
  have f1 := h.frozen 1
  have ha' : (a : Int) < m.length := by omega
  have hd : m.getD a 0 = m[a] := by simp [ha]
  go_enter Try.func102, Try.ntmps102
  go_wp2_with fail
  go_quiet (fail)
  go_wp2_with fail
  go_quiet (fail)
  go_wp2_with fail
  go_ret
  refine ⟨?_, ?_, grown_drewN (grown_set (grown_drewN (World.grownBy.refl _ _) _) _ _) _, by simp [World.setCell]⟩
  · rw [hd]; exact ret_int (IntWalk.wrap64_in _ (by have := m[a].toNat_lt; omega))
  · exact ((h.drewN _).set 1 _).drewN _
theorem octet_no (g : Nat) (m : List UInt8) (a z : Nat) (v : Value) (w : World) (h : RdAt w g m a z v) (hl : m.length ≤ 70000) (ha : m.length ≤ a) :
    Calls Try.prog 102 #[.pointer (some ⟨g, 0, none⟩)] w (StopB 1 g w) := by
  have c0 := h.cell_ 0 rfl
  have c1 := h.cell_ 1 rfl
  have ha' : (m.length : Int) ≤ a := by omega
  go_enter Try.func102, Try.ntmps102
  go_wp2_with fail
  go_quiet (fail)
  go_wp2_with fail
  exact ⟨rfl, rfl, grown_drewN (World.grownBy.refl _ _) _⟩

/-- What a label's reading leaves. -/
def LabRet (m : List UInt8) (g a z c : Nat) (l : List (List UInt8)) (lo : Nat) (w : World) (e : Ending) (w' : World) : Prop :=
  e = .returned (.tuple #[]) ∧ ∃ v, RdAt w' g m (a + c) (z + (c + 1)) v ∧ Txts w' v (l ++ [(m.take (a + c)).drop a]) ∧ Below lo w w' ∧ (∀ k, v.ownBlock = some k → lo ≤ k ∧ k ≠ g)
theorem label_short (g : Nat) (m : List UInt8) (a z c : Nat) (v : Value) (w : World) (h : RdAt w g m a z v) (hl : m.length ≤ 70000) (ha : a ≤ m.length) (hc : c ≤ 63) (hs : m.length < a + c) :
    Calls Try.prog 103 #[.pointer (some ⟨g, 0, none⟩), .int .i64 c] w (StopB 1 g w) := by
  have c0 := h.cell_ 0 rfl
  have c1 := h.cell_ 1 rfl
  have hs' : (m.length : Int) - a < c := by omega
  go_enter Try.func103, Try.ntmps103
  go_wp2_with fail
  go_quiet (fail)
  go_wp2_with fail
  exact ⟨rfl, rfl, grown_drewN (World.grownBy.refl _ _) _⟩
end Go.Proofs.Ytlmgdogblbigpaa
