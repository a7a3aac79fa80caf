/-
  Records as cells; what is wrong with a record, plainly.
-/
import Derived.Test.YtlmgdogblbigpaaGC
import Derived.Test.YtlmgdogblbigpaaGB
import Derived.Test.YtlmgdogblbigpaaGD
import Derived.Test.YtlmgdogblbigpaaGJ
namespace Go.Proofs.Ytlmgdogblbigpaa
open Go.RowKit
set_option maxRecDepth 100000
set_option linter.unusedVariables false

/-- A record. -/
structure RR where
  name : List (List UInt8)
  ty : Int
  cl : Int
  ttl : Int
  ad : Adr
  tg : List (List UInt8)
  ml : List (List UInt8)
  pri : Int
  we : Int
  po : Int
  nums : List Int
  raw : List UInt8
deriving DecidableEq
def ints64 (l : List Int) : List Value := l.map (Value.int .i64)
/-- Its cells, the names' slices given. -/
def rrC (vn vt vm : Value) (r : RR) : List Value := vn :: .int .i64 r.ty :: .int .i64 r.cl :: .int .i64 r.ttl :: (r.ad.cells ++ (vt :: vm :: .int .i64 r.pri :: .int .i64 r.we :: .int .i64 r.po :: (ints64 r.nums ++ [.string (bs r.raw)])))
def RR.wf (r : RR) : Prop := r.ad.ip.length = 16 ∧ r.nums.length = 5
section
variable {vn vt vm : Value} {r : RR}
theorem rrC_len (h : r.wf) : (rrC vn vt vm r).length = 33 := by simp [rrC, r.ad.cells_len h.1, ints64, h.2]
theorem rrC_0 : (rrC vn vt vm r)[0]? = some vn := rfl
theorem rrC_1 : (rrC vn vt vm r)[1]? = some (.int .i64 r.ty) := rfl
theorem rrC_2 : (rrC vn vt vm r)[2]? = some (.int .i64 r.cl) := rfl
theorem rrC_3 : (rrC vn vt vm r)[3]? = some (.int .i64 r.ttl) := rfl
theorem rrC_ad (h : r.wf) : ((rrC vn vt vm r).drop 4).take 18 = r.ad.cells := by
  simp only [rrC, List.drop_succ_cons, List.drop_zero]
  exact List.take_left' (r.ad.cells_len h.1)
theorem rrC_tail (h : r.wf) (k : Nat) : (rrC vn vt vm r)[22 + k]? = (vt :: vm :: .int .i64 r.pri :: .int .i64 r.we :: .int .i64 r.po :: (ints64 r.nums ++ [.string (bs r.raw)]))[k]? := by
  have e : rrC vn vt vm r = (vn :: .int .i64 r.ty :: .int .i64 r.cl :: .int .i64 r.ttl :: r.ad.cells) ++ (vt :: vm :: .int .i64 r.pri :: .int .i64 r.we :: .int .i64 r.po :: (ints64 r.nums ++ [.string (bs r.raw)])) := by simp [rrC]
  have hl : (vn :: .int .i64 r.ty :: .int .i64 r.cl :: .int .i64 r.ttl :: r.ad.cells).length = 22 := by simp [r.ad.cells_len h.1]
  rw [e, List.getElem?_append_right (by omega), hl, Nat.add_sub_cancel_left]
theorem rrC_22 (h : r.wf) : (rrC vn vt vm r)[22]? = some vt := rrC_tail h 0
theorem rrC_23 (h : r.wf) : (rrC vn vt vm r)[23]? = some vm := rrC_tail h 1
theorem rrC_24 (h : r.wf) : (rrC vn vt vm r)[24]? = some (.int .i64 r.pri) := rrC_tail h 2
theorem rrC_25 (h : r.wf) : (rrC vn vt vm r)[25]? = some (.int .i64 r.we) := rrC_tail h 3
theorem rrC_26 (h : r.wf) : (rrC vn vt vm r)[26]? = some (.int .i64 r.po) := rrC_tail h 4
theorem rrC_num (h : r.wf) (i : Nat) (hi : i < 5) : (rrC vn vt vm r)[27 + i]? = some (.int .i64 (r.nums.getD i 0)) := by
  have := rrC_tail (vn := vn) (vt := vt) (vm := vm) h (5 + i)
  rw [show 22 + (5 + i) = 27 + i by omega] at this
  rw [this, show 5 + i = i + 1 + 1 + 1 + 1 + 1 by omega]
  simp only [List.getElem?_cons_succ]
  rw [List.getElem?_append_left (by simp [ints64, h.2]; omega)]
  simp [ints64, List.getD, h.2, hi]
theorem rrC_32 (h : r.wf) : (rrC vn vt vm r)[32]? = some (.string (bs r.raw)) := by
  have := rrC_tail (vn := vn) (vt := vt) (vm := vm) h 10
  rw [this]
  simp [ints64, h.2]
theorem rrC_nums (h : r.wf) : ((rrC vn vt vm r).drop 27).take 5 = ints64 r.nums := by
  have e : rrC vn vt vm r = (vn :: .int .i64 r.ty :: .int .i64 r.cl :: .int .i64 r.ttl :: (r.ad.cells ++ [vt, vm, .int .i64 r.pri, .int .i64 r.we, .int .i64 r.po])) ++ (ints64 r.nums ++ [.string (bs r.raw)]) := by simp [rrC]
  have hl : (vn :: .int .i64 r.ty :: .int .i64 r.cl :: .int .i64 r.ttl :: (r.ad.cells ++ [vt, vm, .int .i64 r.pri, .int .i64 r.we, .int .i64 r.po])).length = 27 := by simp [r.ad.cells_len h.1]
  rw [e, ← hl, List.drop_left]
  exact List.take_left' (by simp [ints64, h.2])
theorem rrC_one (hn : vn.oneCell' = true) (ht : vt.oneCell' = true) (hm : vm.oneCell' = true) : ∀ v ∈ rrC vn vt vm r, v.oneCell' = true := by
  intro v hv
  simp only [rrC, List.mem_cons, List.mem_append] at hv
  rcases hv with rfl | rfl | rfl | rfl | hv | rfl | rfl | rfl | rfl | rfl | hv | hv
  · exact hn
  · rfl
  · rfl
  · rfl
  · exact r.ad.cells_one v hv
  · exact ht
  · exact hm
  · rfl
  · rfl
  · rfl
  · obtain ⟨b, _, rfl⟩ := List.mem_map.1 hv; rfl
  · rcases hv with rfl | hv
    · rfl
    · cases hv
end
/-- The cells read as the record. -/
def RRis (w : World) (cs : List Value) (r : RR) : Prop :=
  ∃ An cn At ct Am cm, cs = rrC (.slice An r.name.length cn) (.slice At r.tg.length ct) (.slice Am r.ml.length cm) r ∧ r.wf ∧ NmR w An cn r.name ∧ NmR w At ct r.tg ∧ NmR w Am cm r.ml ∧ r.raw.length ≤ 140737488355328
theorem RRis.below {w w' : World} {cs : List Value} {r : RR} (h : RRis w cs r) (hb : Below w.heap.size w w') : RRis w' cs r := by
  obtain ⟨An, cn, At, ct, Am, cm, h1, h2, h3, h4, h5, h6⟩ := h
  exact ⟨An, cn, At, ct, Am, cm, h1, h2, h3.below hb, h4.below hb, h5.below hb, h6⟩
theorem rrInfo : (Try.prog.info? 86).map (·.size) = some 33 := by kernel_rfl
theorem numsInfo : (Try.prog.info? 84).map (·.size) = some 5 := by kernel_rfl

/-- The type of a record that has more than Raw; 0. -/
def kindR (ty cl : Int) : Int := if cl = 1 ∧ (ty = 1 ∨ ty = 28 ∨ ty = 5 ∨ ty = 12 ∨ ty = 33 ∨ ty = 6) then ty else 0
def inB (most n : Int) : Bool := decide (0 ≤ n) && decide (n ≤ most)
/-- What is wrong with what a record has. -/
def hasE (r : RR) : Int :=
  if kindR r.ty r.cl = 1 then (if r.ad.check ≠ 0 ∨ r.ad.fam ≠ 4 ∨ r.ad.zone ≠ 0 then 10 else 0)
  else if kindR r.ty r.cl = 28 then (if r.ad.check ≠ 0 ∨ r.ad.fam ≠ 6 ∨ r.ad.zone ≠ 0 then 10 else 0)
  else if kindR r.ty r.cl = 5 ∨ kindR r.ty r.cl = 12 then checkN r.tg
  else if kindR r.ty r.cl = 33 then (if ([r.pri, r.we, r.po].all (inB 65535)) then checkN r.tg else 4)
  else if kindR r.ty r.cl = 6 then (if checkN r.tg ≠ 0 then checkN r.tg else if checkN r.ml ≠ 0 then checkN r.ml else if r.nums.all (inB 4294967295) then 0 else 4)
  else if 65535 < r.raw.length then 3 else 0
/-- The record without that. -/
def clearR (r : RR) : RR :=
  if kindR r.ty r.cl = 1 ∨ kindR r.ty r.cl = 28 then { r with ad := Adr.zero }
  else if kindR r.ty r.cl = 5 ∨ kindR r.ty r.cl = 12 then { r with tg := [] }
  else if kindR r.ty r.cl = 33 then { r with pri := 0, we := 0, po := 0, tg := [] }
  else if kindR r.ty r.cl = 6 then { r with tg := [], ml := [], nums := [0, 0, 0, 0, 0] }
  else { r with raw := [] }
def bareB (r : RR) : Bool := decide (r.ad = Adr.zero) && decide (r.tg = []) && decide (r.ml = []) && decide (r.pri = 0) && decide (r.we = 0) && decide (r.po = 0) && decide (r.nums = [0, 0, 0, 0, 0]) && decide (r.raw = [])
/-- What is wrong with a record. -/
def checkR (r : RR) : Int :=
  if checkN r.name ≠ 0 then checkN r.name
  else if ¬ ([r.ty, r.cl].all (inB 65535)) ∨ ¬ inB 4294967295 r.ttl then 4
  else if hasE r ≠ 0 then hasE r
  else if bareB (clearR r) then 0 else 5
end Go.Proofs.Ytlmgdogblbigpaa
/-
  Layer 13 (rdata): the small ones: kindOf, within, names, address; the reference's kind, out.
-/
namespace Go.Proofs.Ytlmgdogblbigpaa
open Go.RowKit
set_option maxRecDepth 100000
set_option linter.unusedVariables false

theorem kindOf_any (ty cl : Int) (w : World) : Calls Try.prog 91 #[.int .i64 ty, .int .i64 cl] w (Ret (.int .i64 (kindR ty cl)) w) := by
  by_cases h1 : cl = 1
  · subst h1
    by_cases hk : ty = 1 ∨ ty = 28 ∨ ty = 5 ∨ ty = 12 ∨ ty = 33 ∨ ty = 6
    · have hr : kindR ty 1 = ty := by unfold kindR; rw [if_pos ⟨rfl, hk⟩]
      rw [hr]
      clear hr
      rcases hk with rfl | rfl | rfl | rfl | rfl | rfl
      all_goals
        go_enter Try.func91, Try.ntmps91
        go_wp2
        go_ret
        exact Ret.mk rfl rfl
    · have hr : kindR ty 1 = 0 := by unfold kindR; rw [if_neg (fun h => hk h.2)]
      rw [hr]
      have e1 : (ty == 1) = false := by simp; omega
      have e2 : (ty == 28) = false := by simp; omega
      have e3 : (ty == 5) = false := by simp; omega
      have e4 : (ty == 12) = false := by simp; omega
      have e5 : (ty == 33) = false := by simp; omega
      have e6 : (ty == 6) = false := by simp; omega
      clear hk hr
      go_enter Try.func91, Try.ntmps91
      go_wp2
      go_ret
      exact Ret.mk rfl rfl
  · have hr : kindR ty cl = 0 := by unfold kindR; rw [if_neg (fun h => h1 h.1)]
    rw [hr]
    have e1 : (cl != 1) = true := by simpa using h1
    clear h1 hr
    go_enter Try.func91, Try.ntmps91
    go_wp2
    go_ret
    exact Ret.mk rfl rfl
theorem refKind13_any (ty cl : Int) (w : World) : Calls Try.prog 112 #[.int .i64 ty, .int .i64 cl] w (Ret (.int .i64 (kindR ty cl)) w) := by
  by_cases h1 : cl = 1
  · subst h1
    by_cases hk : ty = 1 ∨ ty = 28 ∨ ty = 5 ∨ ty = 12 ∨ ty = 33 ∨ ty = 6
    · have hr : kindR ty 1 = ty := by unfold kindR; rw [if_pos ⟨rfl, hk⟩]
      rw [hr]
      clear hr
      rcases hk with rfl | rfl | rfl | rfl | rfl | rfl
      all_goals
        go_enter Try.func112, Try.ntmps112
        go_wp2
        go_ret
        exact Ret.mk rfl rfl
    · have hr : kindR ty 1 = 0 := by unfold kindR; rw [if_neg (fun h => hk h.2)]
      rw [hr]
      have e1 : (ty == 1) = false := by simp; omega
      have e2 : (ty == 28) = false := by simp; omega
      have e3 : (ty == 5) = false := by simp; omega
      have e4 : (ty == 12) = false := by simp; omega
      have e5 : (ty == 33) = false := by simp; omega
      have e6 : (ty == 6) = false := by simp; omega
      clear hk hr
      go_enter Try.func112, Try.ntmps112
      go_wp2
      go_ret
      exact Ret.mk rfl rfl
  · have hr : kindR ty cl = 0 := by unfold kindR; rw [if_neg (fun h => h1 h.1)]
    rw [hr]
    have e1 : (cl == 1) = false := by simpa using h1
    clear h1 hr
    go_enter Try.func112, Try.ntmps112
    go_wp2
    go_ret
    exact Ret.mk rfl rfl
theorem inB_iff (m n : Int) : inB m n = true ↔ 0 ≤ n ∧ n ≤ m := by simp [inB]
theorem inB_no {m n : Int} (h : inB m n = false) : n < 0 ∨ m < n := by simp [inB] at h; omega
theorem rwithin_any (m : Int) (A : Option Addr) (c : Nat) (l : List Int) (w : World) (hA : IntsR w A l) (hl : l.length ≤ 281474976710656) : Calls Try.prog 113 #[.int .i64 m, .slice A l.length c] w (Ret (.bool (l.all (inB m))) w) := by
  go_enter Try.func113, Try.ntmps113
  go_wp2_with fail
  go_loop [9] (fun i => ∃ k : Nat, k ≤ l.length ∧ i = .int .i64 k ∧ Hid (∀ j (hj : j < l.length), j < k → inB m l[j] = true)) (fun i => l.length - (intOf i).toNat)
  case atStart => exact ⟨0, Nat.zero_le _, rfl, Lib.hid (fun j hj h => by omega)⟩
  case round =>
    obtain ⟨k, hk, rfl, H⟩ := hrel
    by_cases hlt : k < l.length
    · have hlt' : (k : Int) < l.length := by omega
      obtain ⟨b, off, rfl, _, xa⟩ := hA (by omega)
      have c1 := xa k hlt
      clear xa
      cases hb : inB m l[k] with
      | true =>
        obtain ⟨h1, h2⟩ := (inB_iff _ _).1 hb
        have HB := Lib.hid hb
        clear hb
        obtain ⟨x, hx⟩ : ∃ x, x = l[k] := ⟨_, rfl⟩
        rw [← hx] at c1 h1 h2
        clear hx
        have d1 : decide (x < 0) = false := decide_eq_false (by omega)
        have d2 : decide (m < x) = false := decide_eq_false (by omega)
        go_wp2_with fail
        go_round
        case rel => exact ⟨k + 1, by omega, by go_num, Lib.hid (fun j hj h => by
          by_cases e : j = k
          · subst e; exact HB.out
          · exact H.out j hj (by omega))⟩
        case measure => simp [intOf]; omega
      | false =>
        have hno : l.all (inB m) = false := by rw [List.all_eq_false]; exact ⟨l[k], List.getElem_mem hlt, by simpa using hb⟩
        have HN := Lib.hid hno
        have h12 := inB_no hb
        generalize l[k] = x at *
        clear hb hno
        by_cases h1 : x < 0
        · have d1 : decide (x < 0) = true := decide_eq_true h1
          go_wp2_with fail
          go_ret
          exact Ret.mk (ret_bool HN.out.symm) rfl
        · have d1 : decide (x < 0) = false := decide_eq_false h1
          have h2 : m < x := by omega
          have d2 : decide (m < x) = true := decide_eq_true h2
          clear h12
          go_wp2_with fail
          go_ret
          exact Ret.mk (ret_bool HN.out.symm) rfl
    · have hlt' : ¬ (k : Int) < l.length := by omega
      have hyes : l.all (inB m) = true := by
        rw [List.all_eq_true]; intro x hx
        obtain ⟨j, hj, rfl⟩ := List.getElem_of_mem hx
        exact H.out j hj (by omega)
      have HY := Lib.hid hyes
      clear hyes
      go_wp2_with fail
      go_ret
      exact Ret.mk (ret_bool HY.out.symm) rfl
/-- The first error of names. -/
def namesE : List (List (List UInt8)) → Int
  | [] => 0
  | n :: ls => if checkN n ≠ 0 then checkN n else namesE ls
theorem namesE_ok {ls : List (List (List UInt8))} (h : ∀ j (hj : j < ls.length), checkN ls[j] = 0) : namesE ls = 0 := by
  induction ls with
  | nil => rfl
  | cons n ls ih =>
    have h0 := h 0 (by simp)
    simp at h0
    unfold namesE
    rw [if_neg (by simp [h0])]
    exact ih (fun j hj => by have := h (j + 1) (by simp; omega); simpa using this)
theorem namesE_bad {ls : List (List (List UInt8))} {k : Nat} (hk : k < ls.length) (h : ∀ j (hj : j < ls.length), j < k → checkN ls[j] = 0) (hb : checkN ls[k] ≠ 0) : namesE ls = checkN ls[k] := by
  induction ls generalizing k with
  | nil => simp at hk
  | cons n ls ih =>
    cases k with
    | zero => simp only [List.getElem_cons_zero] at hb ⊢; unfold namesE; rw [if_pos hb]
    | succ k =>
      have h0 := h 0 (by simp) (by omega)
      simp at h0
      unfold namesE
      rw [if_neg (by simp [h0])]
      have := ih (k := k) (by simpa using hk) (fun j hj hjk => by have := h (j + 1) (by simp; omega) (by omega); simpa using this) (by simpa using hb)
      simpa using this
theorem rnames_any (A : Option Addr) (c : Nat) (ls : List (List (List UInt8))) (w : World) (hA : NmsR w A ls) (hl : ls.length ≤ 281474976710656) : Calls Try.prog 130 #[.slice A ls.length c] w (Ret (.int .i64 (namesE ls)) w) := by
  go_enter Try.func130, Try.ntmps130
  go_wp2_with fail
  go_loop [8] (fun i => ∃ k : Nat, k ≤ ls.length ∧ i = .int .i64 k ∧ Hid (∀ j (hj : j < ls.length), j < k → checkN ls[j] = 0)) (fun i => ls.length - (intOf i).toNat)
  case atStart => exact ⟨0, Nat.zero_le _, rfl, Lib.hid (fun j hj h => by omega)⟩
  case round =>
    obtain ⟨k, hk, rfl, H⟩ := hrel
    by_cases hlt : k < ls.length
    · have hlt' : (k : Int) < ls.length := by omega
      obtain ⟨b, off, rfl, _, xa⟩ := hA (by omega)
      obtain ⟨Ai, ci, c1, hR⟩ := xa k hlt
      have C := dcheck_any Ai ci ls[k] w hR.1 (by have := hR.2.2.1; omega)
      clear xa
      by_cases h0 : checkN ls[k] = 0
      · rw [h0] at C
        have H0 := Lib.hid h0
        clear h0
        go_wp2_with fail
        refine C.mono ?_
        rintro _ w1 ⟨rfl, rfl⟩
        clear C
        go_wp2_with fail
        go_round
        case rel => exact ⟨k + 1, by omega, by go_num, Lib.hid (fun j hj h => by
          by_cases e : j = k
          · subst e; exact H0.out
          · exact H.out j hj (by omega))⟩
        case measure => simp [intOf]; omega
      · have hb := Lib.hid (namesE_bad hlt H.out h0)
        generalize checkN ls[k] = e at *
        have h0' : (e != 0) = true := by simpa using h0
        clear h0
        go_wp2_with fail
        refine C.mono ?_
        rintro _ w1 ⟨rfl, rfl⟩
        clear C
        go_wp2_with fail
        go_ret
        exact Ret.mk (ret_int hb.out.symm) rfl
    · have hlt' : ¬ (k : Int) < ls.length := by omega
      have hy := Lib.hid (namesE_ok (fun j hj => H.out j hj (by omega)))
      go_wp2_with fail
      go_ret
      exact Ret.mk (ret_int hy.out.symm) rfl
/-- What is wrong with an address that is to be of a family. -/
def adE (a : Adr) (f : Int) : Int := if a.check ≠ 0 ∨ a.fam ≠ f ∨ a.zone ≠ 0 then 10 else 0
theorem address_any (x : Adr) (f : Int) (hx : x.ip.length = 16) (w : World) : Calls Try.prog 129 #[.agg x.cells.toArray, .int .i64 f] w (RetB (.int .i64 (adE x f)) w) := by
  have hcl := x.cells_len hx
  have g0 : ∀ hi : 0 < x.cells.length, x.cells[0]'hi = .int .i64 x.fam := at_of rfl
  have g17 : ∀ hi : 17 < x.cells.length, x.cells[17]'hi = .int .i64 x.zone := at_of (x.zone_at hx)
  have C := Lib.hid (addrCheck_any x hx)
  have hb := Blk.new w 59 x.cells
  have hld : ((x.cells).drop 0).take 18 = x.cells := by rw [List.drop_zero, List.take_of_length_le (by omega)]
  have HL := Lib.hid hld
  have c0 : x.cells[0]? = some (.int .i64 x.fam) := rfl
  have c17 := x.zone_at hx
  clear hld
  have he : adE x f = if x.check ≠ 0 ∨ x.fam ≠ f ∨ x.zone ≠ 0 then 10 else 0 := rfl
  generalize adE x f = er at *
  have HE := Lib.hid he
  clear he
  obtain ⟨ck, hck⟩ : ∃ ck, ck = x.check := ⟨_, rfl⟩
  rw [← hck] at C HE
  clear hck
  generalize x.fam = fm at *
  generalize x.zone = zn at *
  generalize x.cells = L at *
  go_enter Try.func129, Try.ntmps129
  go_wp2_with (refine at_op (.load 59 (.tmp 2)) rfl ?_; go_must (refine wpList_ldB rfl 59 (.tmp 2) rfl w.heap.size 0 rfl hb 18 (by omega) _ Try.underlying59 rfl adrInfo L HL.out ?_))
  go_wp2_with fail
  refine (C.out _).mono ?_
  rintro _ w1 ⟨rfl, b1⟩
  have hb1 := hb.below b1 (by simp)
  have hB := below_then ((Below.refl _ w).alloc (Nat.le_refl _) (.cells L.toArray 59)) (by simp) b1
  have u0 := hb1.cell_ 0 c0
  have u17 := hb1.cell_ 17 c17
  clear b1 hb hb1 C HL g0 g17
  by_cases h1 : ck = 0
  · have e1 : (ck != 0) = false := by simpa using h1
    by_cases h2 : fm = f
    · have e2 : (fm != f) = false := by simpa using h2
      by_cases h3 : zn = 0
      · have e3 : (zn != 0) = false := by simpa using h3
        have hr := HE.out
        rw [if_neg (by simp [h1, h2, h3])] at hr
        subst hr
        clear HE
        clear h1 h2 h3
        go_wp2_with fail
        go_ret
        exact RetB.mk rfl hB
      · have e3 : (zn != 0) = true := by simpa using h3
        have hr := HE.out
        rw [if_pos (.inr (.inr h3))] at hr
        subst hr
        clear HE
        clear h1 h2 h3
        go_wp2_with fail
        go_ret
        exact RetB.mk rfl hB
    · have e2 : (fm != f) = true := by simpa using h2
      have hr := HE.out
      rw [if_pos (.inr (.inl h2))] at hr
      subst hr
      clear HE
      clear h1 h2
      go_wp2_with fail
      go_ret
      exact RetB.mk rfl hB
  · have e1 : (ck != 0) = true := by simpa using h1
    have hr := HE.out
    rw [if_pos (.inl h1)] at hr
    subst hr
    clear HE
    clear h1
    go_wp2_with fail
    go_ret
    exact RetB.mk rfl hB
end Go.Proofs.Ytlmgdogblbigpaa
