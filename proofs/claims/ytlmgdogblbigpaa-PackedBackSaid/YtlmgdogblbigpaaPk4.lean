/-
  Layer 12 (packed): Get.
-/
import Derived.Test.YtlmgdogblbigpaaPk3
namespace Go.Proofs.Ytlmgdogblbigpaa
open Go.RowKit
set_option maxRecDepth 100000
set_option linter.unusedVariables false

/-- Behind a recover: the rest goes as in a call by itself. -/
theorem wpS_rest {P : Program} {fn : Func} {c₀ : Frame} {cs : List Frame} {R : Ending → FrameMode → World → Prop} {u' : FrameMode} {c : Code} {a : Act} {w : World}
    (h : c.wp P (bodyPost P fn (fun e w' => R e u' w')) a w) : c.wpS P (bodyPostS P fn c₀ cs R) a ({ c₀ with mode := u' } :: cs) w := by
  refine wpS_of_wp (Code.wp_mono ?_ h)
  intro e a' w' hq
  cases e with
  | normal => exact ⟨hq.1, u', rfl, hq.2⟩
  | ret => exact ⟨hq.1, u', rfl, hq.2⟩
  | panic ch => exact ⟨hq.1, u', rfl, hq.2⟩
  | outgrown => exact ⟨u', hq⟩
  | exit id => exact hq
  | goto l => exact hq
theorem wpS_rest0 {P : Program} {fn : Func} {c₀ : Frame} {cs : List Frame} {R : Ending → FrameMode → World → Prop} {u : FrameMode} {c : Code} {a : Act} {w : World} (hu : c₀.mode = u)
    (h : c.wp P (bodyPost P fn (fun e w' => R e u w')) a w) : c.wpS P (bodyPostS P fn c₀ cs R) a (c₀ :: cs) w := by
  have := wpS_rest (c₀ := c₀) (cs := cs) h
  cases c₀; simp at hu; subst hu; exact this
theorem wp_tmps {P : Program} {Q : Exit → Act → World → Prop} {c : Code} {t : Array Value} {d : List Deferred} {w : World} (l : List Value) (e : t = l.toArray) (h : c.wp P Q ⟨l.toArray, d⟩ w) : c.wp P Q ⟨t, d⟩ w := e ▸ h
theorem frame_same {c₀ : Frame} {u : FrameMode} (h : c₀.mode = u) : c₀ = { c₀ with mode := u } := by cases c₀; simp at h; subst h; rfl

theorem get1_idle (p q r : Addr) (w : World) :
    CallsD Try.prog 57 #[.pointer (some p), .pointer (some q), .pointer (some r)] .returning w fun e u' w' => e = .returned (.tuple #[]) ∧ u' = .returning ∧ w' = w := by
  refine callsD_of_wpS Try.func57 rfl fun c₀ cs hu => ?_
  apply wpS_seq
  apply wpS_region
  simp [wpOpsS, go_sem, recoverD, hu, Try.ntmps57, Exit.thenS]
  refine wpS_rest0 hu ?_
  refine wp_tmps [.pointer (some p), .pointer (some q), .pointer (some r), .nilIface, undef, undef, .nilIface, undef, undef, undef, undef, undef, undef, undef, undef, undef, undef, undef, undef] (by rfl) ?_
  clear hu
  go_wp2
  first | go_end0 | refine bodyPost_ret (results_none rfl _ _ _) rfl ?_
  first | exact ⟨rfl, rfl, rfl⟩ | exact ⟨rfl, rfl⟩ | rfl
/-- The three cells of a result, told anew. -/
def Caught (b0 : Nat) (x : Int) (w w' : World) : Prop := Blk w' b0 24 [.slice none 0 0] ∧ Blk w' (b0 + 1) 3 [.int .i64 0] ∧ Blk w' (b0 + 2) 25 [.int .i64 x] ∧ Below b0 w w'
theorem get1_stop (b0 : Nat) (v0 v1 v2 : Value) (x : Int) (w : World) (h0 : Blk w b0 24 [v0]) (h1 : Blk w (b0 + 1) 3 [v1]) (h2 : Blk w (b0 + 2) 25 [v2]) :
    CallsD Try.prog 57 #[.pointer (some ⟨b0, 0, none⟩), .pointer (some ⟨b0 + 1, 0, none⟩), .pointer (some ⟨b0 + 2, 0, none⟩)] (.panicking (stopP x)) w fun e u' w' =>
      e = .returned (.tuple #[]) ∧ u' = .panicking [{ v := .iface 100 (.agg #[.int .i64 x]), recovered := true }] ∧ Caught b0 x w w' := by
  have hTa : ∀ w : World, (Instr.typeAssert (.iface 100 (.agg #[.int .i64 x])) 20 100 true).run Try.prog w = .ok (.tuple #[.agg #[.int .i64 x], .bool true]) w := fun _ => by kernel_rfl
  have c0 := h0.cell_ 0 rfl
  have c1 := h1.cell_ 0 rfl
  have c2 := h2.cell_ 0 rfl
  have f0 := h0.frozen 0
  have f1 := h1.frozen 0
  have f2 := h2.frozen 0
  refine callsD_of_wpS Try.func57 rfl fun c₀ cs hu => ?_
  unfold stopP at hu
  apply wpS_seq
  apply wpS_region
  simp [wpOpsS, go_sem, recoverD, hu, Try.ntmps57, Exit.thenS]
  refine wpS_rest (u' := .panicking [{ v := .iface 100 (.agg #[.int .i64 x]), recovered := true }]) ?_
  refine wp_tmps [.pointer (some ⟨b0, 0, none⟩), .pointer (some ⟨b0 + 1, 0, none⟩), .pointer (some ⟨b0 + 2, 0, none⟩), .iface 100 (.agg #[.int .i64 x]), undef, undef, .iface 100 (.agg #[.int .i64 x]), undef, undef, undef, undef, undef, undef, undef, undef, undef, undef, undef, undef] (by rfl) ?_
  clear hu
  have l0 := h0.lt
  have l1 := h1.lt
  have l2 := h2.lt
  go_wp2
  go_region
  all_goals go_end0
  all_goals
    refine ⟨rfl, rfl, Blk.drew (Blk.alloc (Blk.far (Blk.far (h0.set 0 _) (by simp) _) (by simp) _) _), Blk.drew (Blk.alloc (Blk.far (Blk.set (h1.far (by simp) _) 0 _) (by simp) _) _), Blk.drew (Blk.alloc (Blk.set (Blk.far (h2.far (by simp) _) (by simp) _) 0 _) _), ?_⟩
    exact (((((Below.refl _ _).setCell (by simp) _).setCell (by simp) _).setCell (by simp) _).alloc (by simp; omega) _).drew

/-- What stands at an offset of octets, by steps. -/
def gres (m : List UInt8) : Nat → GS → GO
  | 0, _ => .err 15
  | k + 1, s => match gstep m s with
    | .go s' => gres m k s'
    | .err e => .err e
    | .ok l n => .ok l n
theorem gets_gres (m : List UInt8) : ∀ (k : Nat) (s : GS), gmeas s < k → s.size ≤ 255 → Gets m s (gres m k s) := by
  intro k
  induction k with
  | zero => intro s h; omega
  | succ k ih =>
    intro s h hs
    unfold gres
    cases e : gstep m s with
    | err x => exact .err e
    | ok l n => exact .ok e
    | go s' =>
      obtain ⟨h1, h2⟩ := gstep_lt e hs
      exact .go e (ih s' (by omega) h2)
theorem gets_fun {m : List UInt8} {s : GS} {o o' : GO} (h : Gets m s o) (h' : Gets m s o') : o = o' := by
  induction h with
  | err e => exact (gets_err h' e).symm
  | ok e => exact (gets_ok h' e).symm
  | go e _ ih => exact ih (gets_go h' e)
def gresAt (m : List UInt8) (a : Nat) : GO := gres m (a * 300 + 300) ⟨a, 1, a, none, []⟩
theorem gets_at (m : List UInt8) (a : Nat) : Gets m ⟨a, 1, a, none, []⟩ (gresAt m a) := gets_gres m _ _ (by simp [gmeas]) (by simp)
def outR (m : List UInt8) (at_ : Int) : Bool := decide (at_ < 0) || decide ((m.length : Int) < at_)
/-- What Get tells: the name, the offset behind it, the error. -/
def goN : GO → List (List UInt8)
  | .ok l _ => l
  | _ => []
def goB : GO → Int
  | .ok _ n => n
  | _ => 0
def goE : GO → Int
  | .ok _ _ => 0
  | .err e => e
  | .go _ => 0
def pget (m : List UInt8) (at_ : Int) : GO := if outR m at_ then .err 4 else gresAt m at_.toNat
def GetRet (o : GO) (w : World) (e : Ending) (w' : World) : Prop :=
  ∃ v, e = .returned (.tuple #[v, .int .i64 (goB o), .int .i64 (goE o)]) ∧ Txts w' v (goN o) ∧ Below w.heap.size w w' ∧ (∀ k, v.ownBlock = some k → w.heap.size ≤ k)

theorem get_out (m : List UInt8) (at_ : Int) (w : World) (h : outR m at_ = true) :
    Calls Try.prog 19 #[.string (bs m), .int .i64 at_] w (GetRet (.err 4) w) := by
  have hb : at_ < 0 ∨ (0 ≤ at_ ∧ (m.length : Int) < at_) := by
    simp [outR] at h; omega
  clear h
  have hmf : ∀ (fn : Fn) (first cap : Array Value) (w : World), (Instr.makeFunc fn first cap).run Try.prog w = .ok (.func fn first cap) w := fun _ _ _ _ => rfl
  rcases hb with h | ⟨h0, h⟩
  all_goals
    go_enter_defers Try.func19, Try.ntmps19
    go_wp2_with fail
    simp [bodyPostD, Leaves, results, Try.results19, go_sem]
    exact ⟨_, rfl, Txts.nil _, (((Below.refl _ _).alloc (Nat.le_refl _) _).alloc (by simp) _).alloc (by simp; omega) _, by simp [Value.ownBlock]⟩
set_option maxHeartbeats 1000000 in
theorem get_in (m : List UInt8) (a : Nat) (w : World) (hl : m.length ≤ 70000) (ha : a ≤ m.length) (o : GO) (ho : Gets m ⟨a, 1, a, none, []⟩ o) :
    Calls Try.prog 19 #[.string (bs m), .int .i64 a] w (GetRet o w) := by
  have ha' : (a : Int) ≤ m.length := by omega
  have ha0 : (0 : Int) ≤ a := by omega
  have hmf : ∀ (fn : Fn) (first cap : Array Value) (w : World), (Instr.makeFunc fn first cap).run Try.prog w = .ok (.func fn first cap) w := fun _ _ _ _ => rfl
  go_enter_defers Try.func19, Try.ntmps19
  go_wp2_with fail
  refine (read_any _ m a (w.heap.size + 1 + 1 + 1) o _ (Blk.new' _ _ [.string (bs m), .int .i64 a, .int .i64 1, .slice none 0 0] _ (by simp)) (Nat.le_refl _) hl ha ho).mono ?_
  have n0 : ∀ o1 o2 o3, Blk ((((w.alloc (.cells #[.slice none 0 0] 24)).alloc o1).alloc o2).alloc o3) w.heap.size 24 [.slice none 0 0] := fun o1 o2 o3 => (((Blk.new w _ [.slice none 0 0]).alloc _).alloc _).alloc _
  have n1 : ∀ o2 o3, Blk ((((w.alloc (.cells #[.slice none 0 0] 24)).alloc (.cells #[.int .i64 0] 3)).alloc o2).alloc o3) (w.heap.size + 1) 3 [.int .i64 0] := fun o2 o3 => ((Blk.new' _ _ [.int .i64 0] _ (by simp)).alloc _).alloc _
  have n2 : ∀ o3, Blk ((((w.alloc (.cells #[.slice none 0 0] 24)).alloc (.cells #[.int .i64 0] 3)).alloc (.cells #[.int .i64 0] 25)).alloc o3) (w.heap.size + 1 + 1) 25 [.int .i64 0] := fun o3 => (Blk.new' _ _ [.int .i64 0] _ (by simp)).alloc _
  have hB0 : ∀ o1 o2 o3 o4, Below w.heap.size w ((((w.alloc o1).alloc o2).alloc o3).alloc o4) := fun o1 o2 o3 o4 => ((((Below.refl _ _).alloc (Nat.le_refl _) _).alloc (by simp) _).alloc (by simp; omega) _).alloc (by simp; omega) _
  cases o with
  | go s => intro e w1 h; exact False.elim h
  | err x =>
    rintro e w1 ⟨rfl, hB⟩
    have k0 := (n0 _ _ _).below hB (by omega)
    have k1 := (n1 _ _).below hB (by omega)
    have k2 := (n2 _).below hB (by omega)
    have hB1 : Below w.heap.size w w1 := (hB0 _ _ _ _).trans (hB.mono (by omega))
    clear n0 n1 n2 hB0 hB
    go_wp2_with fail
    refine leaves_cons (f := 57) (args := #[.pointer (some ⟨w.heap.size, 0, none⟩), .pointer (some ⟨w.heap.size + 1, 0, none⟩), .pointer (some ⟨w.heap.size + 1 + 1, 0, none⟩)]) (by simp) (by simp [go_sem]) ?_
    refine (get1_stop w.heap.size _ _ _ x _ k0 k1 k2).mono ?_
    rintro e u' w2 ⟨rfl, rfl, c0, c1, c2, hB2⟩
    have v0 := c0.cell_ 0 rfl
    have v1 := c1.cell_ 0 rfl
    have v2 := c2.cell_ 0 rfl
    simp [Leaves, settle, results, Try.results19, go_sem, v0, v1, v2]
    exact ⟨_, rfl, Txts.nil _, hB1.trans hB2, by simp [Value.ownBlock]⟩
  | ok l n =>
    rintro e w1 ⟨rfl, v, a', z', hR, hT, hB, hob⟩
    obtain ⟨A, c, hv, -, -⟩ := hT.form
    rw [hv] at hR hT hob
    clear hv
    have k0 := (n0 _ _ _).below hB (by omega)
    have k1 := (n1 _ _).below hB (by omega)
    have k2 := (n2 _).below hB (by omega)
    have hB1 : Below w.heap.size w w1 := (hB0 _ _ _ _).trans (hB.mono (by omega))
    have HOB := Lib.hid hob
    clear n0 n1 n2 hB0 hB hob
    have u3 := hR.cell_ 3 rfl
    have v0 := k0.cell_ 0 rfl
    have v1 := k1.cell_ 0 rfl
    have v2 := k2.cell_ 0 rfl
    have f0 := k0.frozen 0
    have f1 := k1.frozen 0
    have f2 := k2.frozen 0
    go_wp2_with fail
    go_region
    go_wp2_with fail
    refine leaves_cons (f := 57) (args := #[.pointer (some ⟨w.heap.size, 0, none⟩), .pointer (some ⟨w.heap.size + 1, 0, none⟩), .pointer (some ⟨w.heap.size + 1 + 1, 0, none⟩)]) (by simp) (by simp [go_sem]) ?_
    refine (get1_idle _ _ _ _).mono ?_
    rintro e u' w2 ⟨rfl, rfl, rfl⟩
    simp [Leaves, settle, results, Try.results19, go_sem, v0, v1, v2]
    have far : ∀ {W : World} {b : Nat} (u : Value), b < w.heap.size + 1 + 1 + 1 → Txts W (.slice A l.length c) l → Txts (W.setCell ⟨b, 0, none⟩ u) (.slice A l.length c) l := fun {W} {b} u hb hT => ownsRow_setCell_other hT (fun e => by have := (HOB.out b e).1; omega) _
    refine ⟨_, rfl, far _ (by omega) (far _ (by omega) (far _ (by omega) (far _ (by omega) hT))), ?_, fun k hk => by have := (HOB.out k hk).1; omega⟩
    exact ((((hB1.setCell (by simp) _).setCell (by simp) _).setCell (by simp) _).setCell (by simp; omega) _).drew
theorem get_any (m : List UInt8) (at_ : Int) (w : World) (hl : m.length ≤ 70000) :
    Calls Try.prog 19 #[.string (bs m), .int .i64 at_] w (GetRet (pget m at_) w) := by
  unfold pget
  cases h : outR m at_ with
  | true => rw [if_pos rfl]; exact get_out m at_ w h
  | false =>
    rw [if_neg (by simp)]
    have hb : 0 ≤ at_ ∧ at_ ≤ m.length := by simp [outR] at h; omega
    have := get_in m at_.toNat w hl (by omega) _ (gets_at m at_.toNat)
    rwa [Int.toNat_of_nonneg hb.1] at this
end Go.Proofs.Ytlmgdogblbigpaa
