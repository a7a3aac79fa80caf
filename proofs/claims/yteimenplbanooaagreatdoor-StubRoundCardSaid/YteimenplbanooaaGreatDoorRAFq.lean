/-
  Records as cells; what is wrong with a record, plainly.
-/
import Derived.Test.YteimenplbanooaaGreatDoorGCq
import Derived.Test.YteimenplbanooaaGreatDoorRAEq
namespace Go.Proofs.YteimenplbanooaaGreatDoor
open _root_.Go.Proofs.Tryz
open Go.RowKit
set_option maxRecDepth 100000
set_option linter.unusedVariables false
structure RR where
 name : List (List UInt8)
 ty : Int
 cl : Int
 ttl : Int
 ad : Adr
 tg : List (List UInt8)
 ml : List (List UInt8)
 pri : Int
 we : Int
 po : Int
 nums : List Int
 raw : List UInt8
deriving DecidableEq
def ints64 (l : List Int) : List Value := l.map (Value.int .i64)
def rrC (vn vt vm : Value) (r : RR) : List Value := vn :: .int .i64 r.ty :: .int .i64 r.cl :: .int .i64 r.ttl :: (r.ad.cells ++ (vt :: vm :: .int .i64 r.pri :: .int .i64 r.we :: .int .i64 r.po :: (ints64 r.nums ++ [.string (bs r.raw)])))
def RR.wf (r : RR) : Prop := r.ad.ip.length = 16 ∧ r.nums.length = 5
section
variable {vn vt vm : Value} {r : RR}
theorem rrC_len (h : r.wf) : (rrC vn vt vm r).length = 33 := by simp [rrC, r.ad.cells_len h.1, ints64, h.2]
theorem rrC_1 : (rrC vn vt vm r)[1]? = some (.int .i64 r.ty) := rfl
theorem rrC_2 : (rrC vn vt vm r)[2]? = some (.int .i64 r.cl) := rfl
theorem rrC_ad (h : r.wf) : ((rrC vn vt vm r).drop 4).take 18 = r.ad.cells := by
 simp only [rrC, List.drop_succ_cons, List.drop_zero]
 exact List.take_left' (r.ad.cells_len h.1)
theorem rrC_tail (h : r.wf) (k : Nat) : (rrC vn vt vm r)[22 + k]? = (vt :: vm :: .int .i64 r.pri :: .int .i64 r.we :: .int .i64 r.po :: (ints64 r.nums ++ [.string (bs r.raw)]))[k]? := by
 have e : rrC vn vt vm r = (vn :: .int .i64 r.ty :: .int .i64 r.cl :: .int .i64 r.ttl :: r.ad.cells) ++ (vt :: vm :: .int .i64 r.pri :: .int .i64 r.we :: .int .i64 r.po :: (ints64 r.nums ++ [.string (bs r.raw)])) := by simp [rrC]
 have hl : (vn :: .int .i64 r.ty :: .int .i64 r.cl :: .int .i64 r.ttl :: r.ad.cells).length = 22 := by simp [r.ad.cells_len h.1]
 rw [e, List.getElem?_append_right (by omega), hl, Nat.add_sub_cancel_left]
theorem rrC_22 (h : r.wf) : (rrC vn vt vm r)[22]? = some vt := rrC_tail h 0
theorem rrC_23 (h : r.wf) : (rrC vn vt vm r)[23]? = some vm := rrC_tail h 1
theorem rrC_24 (h : r.wf) : (rrC vn vt vm r)[24]? = some (.int .i64 r.pri) := rrC_tail h 2
theorem rrC_25 (h : r.wf) : (rrC vn vt vm r)[25]? = some (.int .i64 r.we) := rrC_tail h 3
theorem rrC_26 (h : r.wf) : (rrC vn vt vm r)[26]? = some (.int .i64 r.po) := rrC_tail h 4
theorem rrC_32 (h : r.wf) : (rrC vn vt vm r)[32]? = some (.string (bs r.raw)) := by
 have := rrC_tail (vn := vn) (vt := vt) (vm := vm) h 10
 rw [this]
 simp [ints64, h.2]
theorem rrC_nums (h : r.wf) : ((rrC vn vt vm r).drop 27).take 5 = ints64 r.nums := by
 have e : rrC vn vt vm r = (vn :: .int .i64 r.ty :: .int .i64 r.cl :: .int .i64 r.ttl :: (r.ad.cells ++ [vt, vm, .int .i64 r.pri, .int .i64 r.we, .int .i64 r.po])) ++ (ints64 r.nums ++ [.string (bs r.raw)]) := by simp [rrC]
 have hl : (vn :: .int .i64 r.ty :: .int .i64 r.cl :: .int .i64 r.ttl :: (r.ad.cells ++ [vt, vm, .int .i64 r.pri, .int .i64 r.we, .int .i64 r.po])).length = 27 := by simp [r.ad.cells_len h.1]
 rw [e, ← hl, List.drop_left]
 exact List.take_left' (by simp [ints64, h.2])
theorem rrC_one (hn : vn.oneCell' = true) (ht : vt.oneCell' = true) (hm : vm.oneCell' = true) : ∀ v ∈ rrC vn vt vm r, v.oneCell' = true := by
 intro v hv
 simp only [rrC, List.mem_cons, List.mem_append] at hv
 rcases hv with rfl | rfl | rfl | rfl | hv | rfl | rfl | rfl | rfl | rfl | hv | hv
 ·
  exact hn
 ·
  rfl
 ·
  rfl
 ·
  rfl
 ·
  exact r.ad.cells_one v hv
 ·
  exact ht
 ·
  exact hm
 ·
  rfl
 ·
  rfl
 ·
  rfl
 ·
  obtain ⟨b, _, rfl⟩ := List.mem_map.1 hv; rfl
 ·
  rcases hv with rfl | hv
  ·
   rfl
  ·
   cases hv
end
def RRis (w : World) (cs : List Value) (r : RR) : Prop :=
 ∃ An cn At ct Am cm, cs = rrC (.slice An r.name.length cn) (.slice At r.tg.length ct) (.slice Am r.ml.length cm) r ∧ r.wf ∧ NmR w An cn r.name ∧ NmR w At ct r.tg ∧ NmR w Am cm r.ml ∧ r.raw.length ≤ 140737488355328
theorem RRis.below {w w' : World} {cs : List Value} {r : RR} (h : RRis w cs r) (hb : Below w.heap.size w w') : RRis w' cs r := by
 obtain ⟨An, cn, At, ct, Am, cm, h1, h2, h3, h4, h5, h6⟩ := h
 exact ⟨An, cn, At, ct, Am, cm, h1, h2, h3.below hb, h4.below hb, h5.below hb, h6⟩
theorem rrInfo : (prog.info? 96).map (·.size) = some 33 := by kernel_rfl
theorem numsInfo : (prog.info? 94).map (·.size) = some 5 := by kernel_rfl
def kindR (ty cl : Int) : Int := if cl = 1 ∧ (ty = 1 ∨ ty = 28 ∨ ty = 5 ∨ ty = 12 ∨ ty = 33 ∨ ty = 6) then ty else 0
def inB (most n : Int) : Bool := decide (0 ≤ n) && decide (n ≤ most)
def hasE (r : RR) : Int :=
 if kindR r.ty r.cl = 1 then (if r.ad.check ≠ 0 ∨ r.ad.fam ≠ 4 ∨ r.ad.zone ≠ 0 then 10 else 0)
 else if kindR r.ty r.cl = 28 then (if r.ad.check ≠ 0 ∨ r.ad.fam ≠ 6 ∨ r.ad.zone ≠ 0 then 10 else 0)
 else if kindR r.ty r.cl = 5 ∨ kindR r.ty r.cl = 12 then checkN r.tg
 else if kindR r.ty r.cl = 33 then (if ([r.pri, r.we, r.po].all (inB 65535)) then checkN r.tg else 4)
 else if kindR r.ty r.cl = 6 then (if checkN r.tg ≠ 0 then checkN r.tg else if checkN r.ml ≠ 0 then checkN r.ml else if r.nums.all (inB 4294967295) then 0 else 4)
 else if 65535 < r.raw.length then 3 else 0
def clearR (r : RR) : RR :=
 if kindR r.ty r.cl = 1 ∨ kindR r.ty r.cl = 28 then { r with ad := Adr.zero }
 else if kindR r.ty r.cl = 5 ∨ kindR r.ty r.cl = 12 then { r with tg := [] }
 else if kindR r.ty r.cl = 33 then { r with pri := 0, we := 0, po := 0, tg := [] }
 else if kindR r.ty r.cl = 6 then { r with tg := [], ml := [], nums := [0, 0, 0, 0, 0] }
 else { r with raw := [] }
def bareB (r : RR) : Bool := decide (r.ad = Adr.zero) && decide (r.tg = []) && decide (r.ml = []) && decide (r.pri = 0) && decide (r.we = 0) && decide (r.po = 0) && decide (r.nums = [0, 0, 0, 0, 0]) && decide (r.raw = [])
def checkR (r : RR) : Int :=
 if checkN r.name ≠ 0 then checkN r.name
 else if ¬ ([r.ty, r.cl].all (inB 65535)) ∨ ¬ inB 4294967295 r.ttl then 4
 else if hasE r ≠ 0 then hasE r
 else if bareB (clearR r) then 0 else 5
theorem kindOf_any (ty cl : Int) (w : World) : Calls prog 341 #[.int .i64 ty, .int .i64 cl] w (Ret (.int .i64 (kindR ty cl)) w) := by
 by_cases h1 : cl = 1
 ·
  subst h1
  by_cases hk : ty = 1 ∨ ty = 28 ∨ ty = 5 ∨ ty = 12 ∨ ty = 33 ∨ ty = 6
  ·
   have hr : kindR ty 1 = ty := by unfold kindR; rw [if_pos ⟨rfl, hk⟩]
   rw [hr]
   clear hr
   rcases hk with rfl | rfl | rfl | rfl | rfl | rfl
   all_goals
    go_enter func341, ntmps341
    go_wp2
    go_ret
    exact Ret.mk rfl rfl
  ·
   have hr : kindR ty 1 = 0 := by unfold kindR; rw [if_neg (fun h => hk h.2)]
   rw [hr]
   have e1 : (ty == 1) = false := by simp; omega
   have e2 : (ty == 28) = false := by simp; omega
   have e3 : (ty == 5) = false := by simp; omega
   have e4 : (ty == 12) = false := by simp; omega
   have e5 : (ty == 33) = false := by simp; omega
   have e6 : (ty == 6) = false := by simp; omega
   clear hk hr
   go_enter func341, ntmps341
   go_wp2
   go_ret
   exact Ret.mk rfl rfl
 ·
  have hr : kindR ty cl = 0 := by unfold kindR; rw [if_neg (fun h => h1 h.1)]
  rw [hr]
  have e1 : (cl != 1) = true := by simpa using h1
  clear h1 hr
  go_enter func341, ntmps341
  go_wp2
  go_ret
  exact Ret.mk rfl rfl
theorem inB_iff (m n : Int) : inB m n = true ↔ 0 ≤ n ∧ n ≤ m := by simp [inB]
theorem inB_no {m n : Int} (h : inB m n = false) : n < 0 ∨ m < n := by simp [inB] at h; omega
theorem rwithin_any (m : Int) (A : Option Addr) (c : Nat) (l : List Int) (w : World) (hA : IntsR w A l) (hl : l.length ≤ 281474976710656) : Calls prog 337 #[.int .i64 m, .slice A l.length c] w (Ret (.bool (l.all (inB m))) w) := by
 go_enter func337, ntmps337
 go_wp2_with fail
 go_loop [9] (fun i => ∃ k : Nat, k ≤ l.length ∧ i = .int .i64 k ∧ Hid (∀ j (hj : j < l.length), j < k → inB m l[j] = true)) (fun i => l.length - (intOf i).toNat)
 case atStart => exact ⟨0, Nat.zero_le _, rfl, Hh (fun j hj h => by omega)⟩
 case round =>
  obtain ⟨k, hk, rfl, H⟩ := hrel
  by_cases hlt : k < l.length
  ·
   have hlt' : (k : Int) < l.length := by omega
   obtain ⟨b, off, rfl, _, xa⟩ := hA (by omega)
   have c1 := xa k hlt
   clear xa
   cases hb : inB m l[k] with
   | true =>
    obtain ⟨h1, h2⟩ := (inB_iff _ _).1 hb
    have HB := Hh hb
    clear hb
    obtain ⟨x, hx⟩ : ∃ x, x = l[k] := ⟨_, rfl⟩
    rw [← hx] at c1 h1 h2
    clear hx
    have d1 : decide (x < 0) = false := decide_eq_false (by omega)
    have d2 : decide (m < x) = false := decide_eq_false (by omega)
    go_wp2_with fail
    go_round
    case rel => exact ⟨k + 1, by omega, by go_num, Hh (fun j hj h => by
     by_cases e : j = k
     ·
      subst e; exact HB.out
     ·
      exact H.out j hj (by omega))⟩
    case measure => simp [intOf]; omega
   | false =>
    have hno : l.all (inB m) = false := by rw [List.all_eq_false]; exact ⟨l[k], List.getElem_mem hlt, by simpa using hb⟩
    have HN := Hh hno
    have h12 := inB_no hb
    generalize l[k] = x at *
    clear hb hno
    by_cases h1 : x < 0
    ·
     have d1 : decide (x < 0) = true := decide_eq_true h1
     go_wp2_with fail
     go_ret
     exact Ret.mk (ret_bool HN.out.symm) rfl
    ·
     have d1 : decide (x < 0) = false := decide_eq_false h1
     have h2 : m < x := by omega
     have d2 : decide (m < x) = true := decide_eq_true h2
     clear h12
     go_wp2_with fail
     go_ret
     exact Ret.mk (ret_bool HN.out.symm) rfl
  ·
   have hlt' : ¬ (k : Int) < l.length := by omega
   have hyes : l.all (inB m) = true := by
    rw [List.all_eq_true]; intro x hx
    obtain ⟨j, hj, rfl⟩ := List.getElem_of_mem hx
    exact H.out j hj (by omega)
   have HY := Hh hyes
   clear hyes
   go_wp2_with fail
   go_ret
   exact Ret.mk (ret_bool HY.out.symm) rfl
def namesE : List (List (List UInt8)) → Int
 | [] => 0
 | n :: ls => if checkN n ≠ 0 then checkN n else namesE ls
theorem namesE_ok {ls : List (List (List UInt8))} (h : ∀ j (hj : j < ls.length), checkN ls[j] = 0) : namesE ls = 0 := by
 induction ls with
 | nil => rfl
 | cons n ls ih =>
  have h0 := h 0 (by simp)
  simp at h0
  unfold namesE
  rw [if_neg (by simp [h0])]
  exact ih (fun j hj => by have := h (j + 1) (by simp; omega); simpa using this)
theorem namesE_bad {ls : List (List (List UInt8))} {k : Nat} (hk : k < ls.length) (h : ∀ j (hj : j < ls.length), j < k → checkN ls[j] = 0) (hb : checkN ls[k] ≠ 0) : namesE ls = checkN ls[k] := by
 induction ls generalizing k with
 | nil => simp at hk
 | cons n ls ih =>
  cases k with
  | zero => simp only [List.getElem_cons_zero] at hb ⊢; unfold namesE; rw [if_pos hb]
  | succ k =>
   have h0 := h 0 (by simp) (by omega)
   simp at h0
   unfold namesE
   rw [if_neg (by simp [h0])]
   have := ih (k := k) (by simpa using hk) (fun j hj hjk => by have := h (j + 1) (by simp; omega) (by omega); simpa using this) (by simpa using hb)
   simpa using this
theorem rnames_any (A : Option Addr) (c : Nat) (ls : List (List (List UInt8))) (w : World) (hA : NmsR w A ls) (hl : ls.length ≤ 281474976710656) : Calls prog 348 #[.slice A ls.length c] w (Ret (.int .i64 (namesE ls)) w) := by
 go_enter func348, ntmps348
 go_wp2_with fail
 go_loop [8] (fun i => ∃ k : Nat, k ≤ ls.length ∧ i = .int .i64 k ∧ Hid (∀ j (hj : j < ls.length), j < k → checkN ls[j] = 0)) (fun i => ls.length - (intOf i).toNat)
 case atStart => exact ⟨0, Nat.zero_le _, rfl, Hh (fun j hj h => by omega)⟩
 case round =>
  obtain ⟨k, hk, rfl, H⟩ := hrel
  by_cases hlt : k < ls.length
  ·
   have hlt' : (k : Int) < ls.length := by omega
   obtain ⟨b, off, rfl, _, xa⟩ := hA (by omega)
   obtain ⟨Ai, ci, c1, hR⟩ := xa k hlt
   have C := dcheck_any Ai ci ls[k] w hR.1 (by have := hR.2.2.1; omega)
   clear xa
   by_cases h0 : checkN ls[k] = 0
   ·
    rw [h0] at C
    have H0 := Hh h0
    clear h0
    go_wp2_with fail
    refine C.mono ?_
    rintro _ w1 ⟨rfl, rfl⟩
    clear C
    go_wp2_with fail
    go_round
    case rel => exact ⟨k + 1, by omega, by go_num, Hh (fun j hj h => by
     by_cases e : j = k
     ·
      subst e; exact H0.out
     ·
      exact H.out j hj (by omega))⟩
    case measure => simp [intOf]; omega
   ·
    have hb := Hh (namesE_bad hlt H.out h0)
    generalize checkN ls[k] = e at *
    have h0' : (e != 0) = true := by simpa using h0
    clear h0
    go_wp2_with fail
    refine C.mono ?_
    rintro _ w1 ⟨rfl, rfl⟩
    clear C
    go_wp2_with fail
    go_ret
    exact Ret.mk (ret_int hb.out.symm) rfl
  ·
   have hlt' : ¬ (k : Int) < ls.length := by omega
   have hy := Hh (namesE_ok (fun j hj => H.out j hj (by omega)))
   go_wp2_with fail
   go_ret
   exact Ret.mk (ret_int hy.out.symm) rfl
def adE (a : Adr) (f : Int) : Int := if a.check ≠ 0 ∨ a.fam ≠ f ∨ a.zone ≠ 0 then 10 else 0
theorem address_any (x : Adr) (f : Int) (hx : x.ip.length = 16) (w : World) : Calls prog 347 #[.agg x.cells.toArray, .int .i64 f] w (RetB (.int .i64 (adE x f)) w) := by
 have hcl := x.cells_len hx
 have g0 : ∀ hi : 0 < x.cells.length, x.cells[0]'hi = .int .i64 x.fam := at_of rfl
 have g17 : ∀ hi : 17 < x.cells.length, x.cells[17]'hi = .int .i64 x.zone := at_of (x.zone_at hx)
 have C := Hh (addrCheck_any x hx)
 have hb := Blk.new w 24 x.cells
 have hld : ((x.cells).drop 0).take 18 = x.cells := by rw [List.drop_zero, List.take_of_length_le (by omega)]
 have HL := Hh hld
 have c0 : x.cells[0]? = some (.int .i64 x.fam) := rfl
 have c17 := x.zone_at hx
 clear hld
 have he : adE x f = if x.check ≠ 0 ∨ x.fam ≠ f ∨ x.zone ≠ 0 then 10 else 0 := rfl
 generalize adE x f = er at *
 have HE := Hh he
 clear he
 obtain ⟨ck, hck⟩ : ∃ ck, ck = x.check := ⟨_, rfl⟩
 rw [← hck] at C HE
 clear hck
 generalize x.fam = fm at *
 generalize x.zone = zn at *
 generalize x.cells = L at *
 go_enter func347, ntmps347
 go_wp2_with (refine at_op (.load 24 (.tmp 2)) rfl ?_; go_must (refine wpList_ldB rfl _ _ rfl w.heap.size 0 rfl hb 18 (by omega) _ underlying24 rfl adrInfo L HL.out ?_))
 go_wp2_with fail
 refine (C.out _).mono ?_
 rintro _ w1 ⟨rfl, b1⟩
 have hb1 := hb.below b1 (by simp)
 have hB := below_then ((Below.refl _ w).alloc (Nat.le_refl _) (.cells L.toArray 24)) (by simp) b1
 have u0 := hb1.cell_ 0 c0
 have u17 := hb1.cell_ 17 c17
 clear b1 hb hb1 C HL g0 g17
 by_cases h1 : ck = 0
 ·
  have e1 : (ck != 0) = false := by simpa using h1
  by_cases h2 : fm = f
  ·
   have e2 : (fm != f) = false := by simpa using h2
   by_cases h3 : zn = 0
   ·
    have e3 : (zn != 0) = false := by simpa using h3
    have hr := HE.out
    rw [if_neg (by simp [h1, h2, h3])] at hr
    subst hr
    clear HE
    clear h1 h2 h3
    go_wp2_with fail
    go_ret
    exact RetB.mk rfl hB
   ·
    have e3 : (zn != 0) = true := by simpa using h3
    have hr := HE.out
    rw [if_pos (.inr (.inr h3))] at hr
    subst hr
    clear HE
    clear h1 h2 h3
    go_wp2_with fail
    go_ret
    exact RetB.mk rfl hB
  ·
   have e2 : (fm != f) = true := by simpa using h2
   have hr := HE.out
   rw [if_pos (.inr (.inl h2))] at hr
   subst hr
   clear HE
   clear h1 h2
   go_wp2_with fail
   go_ret
   exact RetB.mk rfl hB
 ·
  have e1 : (ck != 0) = true := by simpa using h1
  have hr := HE.out
  rw [if_pos (.inl h1)] at hr
  subst hr
  clear HE
  clear h1
  go_wp2_with fail
  go_ret
  exact RetB.mk rfl hB
set_option linter.unusedSimpArgs false
def nilS : Value := .slice none 0 0
def RR.zero : RR := ⟨[], 0, 0, 0, Adr.zero, [], [], 0, 0, 0, [0, 0, 0, 0, 0], []⟩
def rrZ : List Value := rrC nilS nilS nilS RR.zero
theorem rrZ_len : rrZ.length = 33 := rrC_len ⟨rfl, rfl⟩
section
variable {vn vt vm : Value} {r : RR}
theorem rrC_setAd (h : r.wf) (a : Adr) : (rrC vn vt vm r).take 4 ++ a.cells ++ (rrC vn vt vm r).drop 22 = rrC vn vt vm { r with ad := a } := by
 have e : (rrC vn vt vm r).drop 22 = (vt :: vm :: .int .i64 r.pri :: .int .i64 r.we :: .int .i64 r.po :: (ints64 r.nums ++ [.string (bs r.raw)])) := by
  have e2 : rrC vn vt vm r = (vn :: .int .i64 r.ty :: .int .i64 r.cl :: .int .i64 r.ttl :: r.ad.cells) ++ (vt :: vm :: .int .i64 r.pri :: .int .i64 r.we :: .int .i64 r.po :: (ints64 r.nums ++ [.string (bs r.raw)])) := by simp [rrC]
  have hl : (vn :: .int .i64 r.ty :: .int .i64 r.cl :: .int .i64 r.ttl :: r.ad.cells).length = 22 := by simp [r.ad.cells_len h.1]
  rw [e2, ← hl, List.drop_left]
 rw [e]
 simp [rrC]
end
theorem whole_of {L sub : List Value} (h : L.length = sub.length) : L.take 0 ++ sub ++ L.drop (0 + sub.length) = sub := by
 rw [List.take_zero, List.nil_append, Nat.zero_add, List.drop_of_length_le (by omega), List.append_nil]
theorem Adr.zero_len : Adr.zero.cells.length = 18 := Adr.zero.cells_len rfl
set_option maxHeartbeats 2000000 in
theorem has_1 (vn vt vm : Value) (r : RR) (hr : r.wf) (hn : vn.oneCell' = true) (ht : vt.oneCell' = true) (hm : vm.oneCell' = true) (w : World) (hk : kindR r.ty r.cl = 1) :
  Calls prog 338 #[.agg (rrC vn vt vm r).toArray] w (RetB (.tuple #[.agg (rrC vn vt vm { r with ad := Adr.zero }).toArray, .int .i64 (adE r.ad 4)]) w) := by
 have hl := rrC_len (vn := vn) (vt := vt) (vm := vm) hr
 have L1? := rrC_1 (vn := vn) (vt := vt) (vm := vm) (r := r)
 have L2? := rrC_2 (vn := vn) (vt := vt) (vm := vm) (r := r)
 have LA := Hh (rrC_ad (vn := vn) (vt := vt) (vm := vm) hr)
 have LS := Hh (rrC_setAd (vn := vn) (vt := vt) (vm := vm) hr Adr.zero)
 have L1c := Hh (rrC_one (r := r) hn ht hm)
 have L4c := Hh (rrC_one (r := { r with ad := Adr.zero }) hn ht hm)
 have L4l := rrC_len (vn := vn) (vt := vt) (vm := vm) (r := { r with ad := Adr.zero }) ⟨rfl, hr.2⟩
 have K := Hh (fun w => kindOf_any r.ty r.cl w)
 rw [hk] at K
 have AD := Hh (address_any r.ad 4 hr.1)
 generalize rrC vn vt vm { r with ad := Adr.zero } = L4 at *
 generalize rrC vn vt vm r = L at *
 generalize adE r.ad 4 = e at *
 generalize r.ad.cells = LAd at *
 generalize r.ty = ty at *
 generalize r.cl = cl at *
 clear hk
 have B0 := Blk.new w 96 L
 go_enter func338, ntmps338
 go_wp2_with (first
  | (refine at_op (.load 96 (.tmp 1)) rfl ?_; go_must (refine wpList_ldB rfl _ _ rfl w.heap.size 0 rfl (Blk.alloc (Blk.new w 96 L) _) 33 (by omega) _ underlying96 rfl rrInfo L (tk0 (by omega)) ?_))
  | (refine at_op (.store 96 (.tmp 4) (.tmp 6)) rfl ?_; go_must (refine wpList_stB rfl _ _ _ rfl (w.heap.size + 1 + 1) 0 rfl L rfl (Blk.new' _ _ rrZ _ (by simp)) (by rw [rrZ_len]; omega) (by rw [hl]; exact rrInfo) L1c.out ?_)))
 intro w3 hb3 hg3 hs3
 have B1 : Blk w3 w.heap.size 96 L := ((B0.alloc _).alloc _).grown hg3 (by simp; omega)
 have B2 : Blk w3 (w.heap.size + 1) 96 rrZ := ((Blk.new' _ 96 rrZ _ (by simp)).alloc _).grown hg3 (by simp)
 have B4 : Blk w3 (w.heap.size + 1 + 1) 96 L := by rw [List.drop_of_length_le (by rw [rrZ_len]; omega), List.append_nil] at hb3; exact hb3
 have HB : Below w.heap.size w w3 := below_grown ((((Below.refl _ _).alloc (Nat.le_refl _) _).alloc (by simp) _).alloc (by simp; omega) _) hg3 (by simp; omega) (by omega)
 clear hb3 hg3 B0
 have u1 := B1.cell_ 1 L1?
 have u2 := B1.cell_ 2 L2?
 clear L1? L2?
 go_wp2_with fail
 refine (K.out _).mono ?_
 rintro _ w4 ⟨rfl, rfl⟩
 clear K u1 u2
 go_wp2_with (refine at_op (.store 24 (.tmp 15) (.tmp 14)) rfl ?_; go_must (refine wpList_stB rfl _ _ _ rfl (w.heap.size + 1 + 1) 4 rfl Adr.zero.cells rfl B4 (by rw [hl]; decide) adrInfo (Adr.cells_one _) ?_))
 intro w4 hb4 hg4 hs4
 have B1' := B1.grown hg4 (by simp; omega)
 have B2' := B2.grown hg4 (by simp)
 have B4' : Blk w4 (w.heap.size + 1 + 1) 96 L4 := by rw [← LS.out]; simpa only [Adr.zero_len, List.append_assoc] using hb4
 have HB' : Below w.heap.size w w4 := below_grown HB hg4 HB.size (by omega)
 clear hb4 hg4 B1 B2 B4 HB
 go_wp2_with fail
 refine wp_region_held_drew (S := fun w' => Blk w' w.heap.size 96 L ∧ Blk w' (w.heap.size + 1 + 1) 96 L4) (by kernel_rfl) ⟨B1', B4'⟩ (fun hS => ?_)
 refine held_ld 0 (some 16) 96 (.tmp 4) ⟨w.heap.size + 1 + 1, 0, none⟩ rfl rfl rfl rfl (by kernel_rfl) (by kernel_rfl) (by kernel_rfl) (fun _ _ _ h => h) rfl (fun W hW => hW.2.loads 96 0 33 (by omega) _ underlying96 rfl rrInfo L4 (tk0 (by omega))) hS ?_
 simp only [Act.put, lsA, lsB, lsC]
 (refine held_val 1 (some 17) rfl rfl (by kernel_rfl) (by kernel_rfl) (by kernel_rfl) (fun _ _ _ h => h) (by kernel_rfl) (fun W hW => rfl) hS ?_; simp only [Act.put, lsA, lsB, lsC])
 refine held_ld 2 (some 18) 24 (.tmp 17) ⟨w.heap.size, 4, none⟩ rfl rfl rfl rfl (by kernel_rfl) (by kernel_rfl) (by kernel_rfl) (fun _ _ _ h => h) (by kernel_rfl) (fun W hW => hW.1.loads 24 4 18 (by omega) _ underlying24 rfl adrInfo LAd LA.out) hS ?_
 simp only [Act.put, lsA, lsB, lsC]
 refine held_call 3 (some 19) 347 #[.agg LAd.toArray, .int .i64 4] (by kernel_rfl) rfl rfl (by kernel_rfl) (by go_simp) (AD.out _) ?_
 rintro _ w5 ⟨rfl, b5⟩
 have B1'' := hS.1.below b5 hS.1.lt
 have B4'' := hS.2.below b5 hS.2.lt
 have B2'' := B2'.drew.below b5 B2'.drew.lt
 have HB'' : Below w.heap.size w w5 := below_then (w := w4.drew) (below_drewN HB' 1) HB'.size b5
 refine ⟨_, rfl, ⟨B1'', B4''⟩, ?_⟩
 clear hS B1' B4' B2' HB' b5
 simp only [Act.put, lsA, lsB, lsC]
 refine held_stB 4 none 96 (.tmp 2) (.tmp 16) (by kernel_rfl) rfl rfl rfl (by kernel_rfl) (w.heap.size + 1) 0 rfl L4 rfl B2'' (by rw [rrZ_len]; omega) (by rw [L4l]; exact rrInfo) L4c.out ?_
 intro w6 hb6 hg6 hs6
 rw [whole_of (by rw [rrZ_len]; omega)] at hb6
 have HB6 : Below w.heap.size w w6 := below_grown HB'' hg6 HB''.size (by omega)
 have hS : Blk w6 w.heap.size 96 L ∧ Blk w6 (w.heap.size + 1 + 1) 96 L4 := ⟨B1''.grown hg6 (by simp), B4''.grown hg6 (by simp)⟩
 refine ⟨hS, ?_⟩
 clear B1'' B4'' B2'' HB'' hg6
 simp only [Act.put, lsA, lsB, lsC]
 (refine held_val 5 (some 3) rfl rfl (by kernel_rfl) (by kernel_rfl) (by kernel_rfl) (fun _ _ _ h => h) (by kernel_rfl) (fun W hW => rfl) hS ?_; simp only [Act.put, lsA, lsB, lsC])
 refine wpAnyH_done (by kernel_rfl) ?_ _
 clear hS
 go_wp2_with fail
 refine ret_cell_tmp rfl (w.heap.size + 1) rfl hb6 _ underlying96 rfl (by rw [L4l]; exact rrInfo) rfl (.int .i64 e) rfl ?_
 exact RetB.mk rfl HB6
set_option maxHeartbeats 2000000 in
theorem has_28 (vn vt vm : Value) (r : RR) (hr : r.wf) (hn : vn.oneCell' = true) (ht : vt.oneCell' = true) (hm : vm.oneCell' = true) (w : World) (hk : kindR r.ty r.cl = 28) :
  Calls prog 338 #[.agg (rrC vn vt vm r).toArray] w (RetB (.tuple #[.agg (rrC vn vt vm { r with ad := Adr.zero }).toArray, .int .i64 (adE r.ad 6)]) w) := by
 have hl := rrC_len (vn := vn) (vt := vt) (vm := vm) hr
 have L1? := rrC_1 (vn := vn) (vt := vt) (vm := vm) (r := r)
 have L2? := rrC_2 (vn := vn) (vt := vt) (vm := vm) (r := r)
 have LA := Hh (rrC_ad (vn := vn) (vt := vt) (vm := vm) hr)
 have LS := Hh (rrC_setAd (vn := vn) (vt := vt) (vm := vm) hr Adr.zero)
 have L1c := Hh (rrC_one (r := r) hn ht hm)
 have L4c := Hh (rrC_one (r := { r with ad := Adr.zero }) hn ht hm)
 have L4l := rrC_len (vn := vn) (vt := vt) (vm := vm) (r := { r with ad := Adr.zero }) ⟨rfl, hr.2⟩
 have K := Hh (fun w => kindOf_any r.ty r.cl w)
 rw [hk] at K
 have AD := Hh (address_any r.ad 6 hr.1)
 generalize rrC vn vt vm { r with ad := Adr.zero } = L4 at *
 generalize rrC vn vt vm r = L at *
 generalize adE r.ad 6 = e at *
 generalize r.ad.cells = LAd at *
 generalize r.ty = ty at *
 generalize r.cl = cl at *
 clear hk
 have B0 := Blk.new w 96 L
 go_enter func338, ntmps338
 go_wp2_with (first
  | (refine at_op (.load 96 (.tmp 1)) rfl ?_; go_must (refine wpList_ldB rfl _ _ rfl w.heap.size 0 rfl (Blk.alloc (Blk.new w 96 L) _) 33 (by omega) _ underlying96 rfl rrInfo L (tk0 (by omega)) ?_))
  | (refine at_op (.store 96 (.tmp 4) (.tmp 6)) rfl ?_; go_must (refine wpList_stB rfl _ _ _ rfl (w.heap.size + 1 + 1) 0 rfl L rfl (Blk.new' _ _ rrZ _ (by simp)) (by rw [rrZ_len]; omega) (by rw [hl]; exact rrInfo) L1c.out ?_)))
 intro w3 hb3 hg3 hs3
 have B1 : Blk w3 w.heap.size 96 L := ((B0.alloc _).alloc _).grown hg3 (by simp; omega)
 have B2 : Blk w3 (w.heap.size + 1) 96 rrZ := ((Blk.new' _ 96 rrZ _ (by simp)).alloc _).grown hg3 (by simp)
 have B4 : Blk w3 (w.heap.size + 1 + 1) 96 L := by rw [List.drop_of_length_le (by rw [rrZ_len]; omega), List.append_nil] at hb3; exact hb3
 have HB : Below w.heap.size w w3 := below_grown ((((Below.refl _ _).alloc (Nat.le_refl _) _).alloc (by simp) _).alloc (by simp; omega) _) hg3 (by simp; omega) (by omega)
 clear hb3 hg3 B0
 have u1 := B1.cell_ 1 L1?
 have u2 := B1.cell_ 2 L2?
 clear L1? L2?
 go_wp2_with fail
 refine (K.out _).mono ?_
 rintro _ w4 ⟨rfl, rfl⟩
 clear K u1 u2
 go_wp2_with (refine at_op (.store 24 (.tmp 23) (.tmp 22)) rfl ?_; go_must (refine wpList_stB rfl _ _ _ rfl (w.heap.size + 1 + 1) 4 rfl Adr.zero.cells rfl B4 (by rw [hl]; decide) adrInfo (Adr.cells_one _) ?_))
 intro w4 hb4 hg4 hs4
 have B1' := B1.grown hg4 (by simp; omega)
 have B2' := B2.grown hg4 (by simp)
 have B4' : Blk w4 (w.heap.size + 1 + 1) 96 L4 := by rw [← LS.out]; simpa only [Adr.zero_len, List.append_assoc] using hb4
 have HB' : Below w.heap.size w w4 := below_grown HB hg4 HB.size (by omega)
 clear hb4 hg4 B1 B2 B4 HB
 go_wp2_with fail
 refine wp_region_held_drew (S := fun w' => Blk w' w.heap.size 96 L ∧ Blk w' (w.heap.size + 1 + 1) 96 L4) (by kernel_rfl) ⟨B1', B4'⟩ (fun hS => ?_)
 refine held_ld 0 (some 24) 96 (.tmp 4) ⟨w.heap.size + 1 + 1, 0, none⟩ rfl rfl rfl rfl (by kernel_rfl) (by kernel_rfl) (by kernel_rfl) (fun _ _ _ h => h) rfl (fun W hW => hW.2.loads 96 0 33 (by omega) _ underlying96 rfl rrInfo L4 (tk0 (by omega))) hS ?_
 simp only [Act.put, lsA, lsB, lsC]
 (refine held_val 1 (some 25) rfl rfl (by kernel_rfl) (by kernel_rfl) (by kernel_rfl) (fun _ _ _ h => h) (by kernel_rfl) (fun W hW => rfl) hS ?_; simp only [Act.put, lsA, lsB, lsC])
 refine held_ld 2 (some 26) 24 (.tmp 25) ⟨w.heap.size, 4, none⟩ rfl rfl rfl rfl (by kernel_rfl) (by kernel_rfl) (by kernel_rfl) (fun _ _ _ h => h) (by kernel_rfl) (fun W hW => hW.1.loads 24 4 18 (by omega) _ underlying24 rfl adrInfo LAd LA.out) hS ?_
 simp only [Act.put, lsA, lsB, lsC]
 refine held_call 3 (some 27) 347 #[.agg LAd.toArray, .int .i64 6] (by kernel_rfl) rfl rfl (by kernel_rfl) (by go_simp) (AD.out _) ?_
 rintro _ w5 ⟨rfl, b5⟩
 have B1'' := hS.1.below b5 hS.1.lt
 have B4'' := hS.2.below b5 hS.2.lt
 have B2'' := B2'.drew.below b5 B2'.drew.lt
 have HB'' : Below w.heap.size w w5 := below_then (w := w4.drew) (below_drewN HB' 1) HB'.size b5
 refine ⟨_, rfl, ⟨B1'', B4''⟩, ?_⟩
 clear hS B1' B4' B2' HB' b5
 simp only [Act.put, lsA, lsB, lsC]
 refine held_stB 4 none 96 (.tmp 2) (.tmp 24) (by kernel_rfl) rfl rfl rfl (by kernel_rfl) (w.heap.size + 1) 0 rfl L4 rfl B2'' (by rw [rrZ_len]; omega) (by rw [L4l]; exact rrInfo) L4c.out ?_
 intro w6 hb6 hg6 hs6
 rw [whole_of (by rw [rrZ_len]; omega)] at hb6
 have HB6 : Below w.heap.size w w6 := below_grown HB'' hg6 HB''.size (by omega)
 have hS : Blk w6 w.heap.size 96 L ∧ Blk w6 (w.heap.size + 1 + 1) 96 L4 := ⟨B1''.grown hg6 (by simp), B4''.grown hg6 (by simp)⟩
 refine ⟨hS, ?_⟩
 clear B1'' B4'' B2'' HB'' hg6
 simp only [Act.put, lsA, lsB, lsC]
 (refine held_val 5 (some 3) rfl rfl (by kernel_rfl) (by kernel_rfl) (by kernel_rfl) (fun _ _ _ h => h) (by kernel_rfl) (fun W hW => rfl) hS ?_; simp only [Act.put, lsA, lsB, lsC])
 refine wpAnyH_done (by kernel_rfl) ?_ _
 clear hS
 go_wp2_with fail
 refine ret_cell_tmp rfl (w.heap.size + 1) rfl hb6 _ underlying96 rfl (by rw [L4l]; exact rrInfo) rfl (.int .i64 e) rfl ?_
 exact RetB.mk rfl HB6
section
variable {vn vt vm : Value} {r : RR}
theorem rrC_setT (h : r.wf) (k : Nat) (v : Value) : (rrC vn vt vm r).set (22 + k) v = (vn :: .int .i64 r.ty :: .int .i64 r.cl :: .int .i64 r.ttl :: r.ad.cells) ++ (vt :: vm :: .int .i64 r.pri :: .int .i64 r.we :: .int .i64 r.po :: (ints64 r.nums ++ [.string (bs r.raw)])).set k v := by
 have e2 : rrC vn vt vm r = (vn :: .int .i64 r.ty :: .int .i64 r.cl :: .int .i64 r.ttl :: r.ad.cells) ++ (vt :: vm :: .int .i64 r.pri :: .int .i64 r.we :: .int .i64 r.po :: (ints64 r.nums ++ [.string (bs r.raw)])) := by simp [rrC]
 have hl : (vn :: .int .i64 r.ty :: .int .i64 r.cl :: .int .i64 r.ttl :: r.ad.cells).length = 22 := by simp [r.ad.cells_len h.1]
 rw [e2, List.set_append_right _ _ (by omega), hl, Nat.add_sub_cancel_left]
theorem rrC_setTg (h : r.wf) (v : Value) : (rrC vn vt vm r).set 22 v = rrC vn v vm r := by rw [rrC_setT h 0]; simp [rrC]
theorem rrC_setMl (h : r.wf) (v : Value) : (rrC vn vt vm r).set 23 v = rrC vn vt v r := by rw [rrC_setT h 1]; simp [rrC]
theorem rrC_setPri (h : r.wf) (x : Int) : (rrC vn vt vm r).set 24 (.int .i64 x) = rrC vn vt vm { r with pri := x } := by rw [rrC_setT h 2]; simp [rrC]
theorem rrC_setWe (h : r.wf) (x : Int) : (rrC vn vt vm r).set 25 (.int .i64 x) = rrC vn vt vm { r with we := x } := by rw [rrC_setT h 3]; simp [rrC]
theorem rrC_setPo (h : r.wf) (x : Int) : (rrC vn vt vm r).set 26 (.int .i64 x) = rrC vn vt vm { r with po := x } := by rw [rrC_setT h 4]; simp [rrC]
theorem rrC_setRaw (h : r.wf) (x : List UInt8) : (rrC vn vt vm r).set 32 (.string (bs x)) = rrC vn vt vm { r with raw := x } := by
 rw [rrC_setT h 10]
 have e : (ints64 r.nums ++ [Value.string (bs r.raw)]).set 5 (.string (bs x)) = ints64 r.nums ++ [.string (bs x)] := by
  rw [List.set_append_right _ _ (by simp [ints64, h.2])]; simp [ints64, h.2]
 simp [rrC, e]
theorem rrC_setNums (h : r.wf) (l : List Int) (hl : l.length = 5) : (rrC vn vt vm r).take 27 ++ ints64 l ++ (rrC vn vt vm r).drop 32 = rrC vn vt vm { r with nums := l } := by
 have e : rrC vn vt vm r = (vn :: .int .i64 r.ty :: .int .i64 r.cl :: .int .i64 r.ttl :: (r.ad.cells ++ [vt, vm, .int .i64 r.pri, .int .i64 r.we, .int .i64 r.po])) ++ (ints64 r.nums ++ [.string (bs r.raw)]) := by simp [rrC]
 have hl : (vn :: .int .i64 r.ty :: .int .i64 r.cl :: .int .i64 r.ttl :: (r.ad.cells ++ [vt, vm, .int .i64 r.pri, .int .i64 r.we, .int .i64 r.po])).length = 27 := by simp [r.ad.cells_len h.1]
 have e1 : (rrC vn vt vm r).take 27 = (vn :: .int .i64 r.ty :: .int .i64 r.cl :: .int .i64 r.ttl :: (r.ad.cells ++ [vt, vm, .int .i64 r.pri, .int .i64 r.we, .int .i64 r.po])) := by rw [e, ← hl, List.take_left]
 have e2 : (rrC vn vt vm r).drop 32 = [.string (bs r.raw)] := by
  rw [e, show 32 = 27 + 5 from rfl, ← List.drop_drop, ← hl, List.drop_left]
  exact List.drop_left' (by simp [ints64, h.2])
 rw [e1, e2]
 simp [rrC]
end
theorem namesE_one (n : List (List UInt8)) : namesE [n] = checkN n := by simp only [namesE]; split <;> simp_all
theorem NmsR.new1 {w : World} {A : Option Addr} {c : Nat} {n : List (List UInt8)} (h : NmR w A c n) (k : Nat) (hk : k = w.heap.size) (t : TypeId) : NmsR (w.alloc (.cells #[.slice A n.length c] t)) (some ⟨k, 0, none⟩) [n] := by
 intro _
 subst hk
 refine ⟨_, 0, rfl, by simp, fun i hi => ?_⟩
 have hi0 : i = 0 := by simp at hi; exact hi
 subst hi0
 exact ⟨A, c, (Blk.new w t [.slice A n.length c]).cell_ 0 rfl, h.below ((Below.refl _ _).alloc (Nat.le_refl _) _)⟩
theorem NmsR.new2 {w : World} {A B : Option Addr} {c d : Nat} {n m : List (List UInt8)} (h : NmR w A c n) (h2 : NmR w B d m) (k : Nat) (hk : k = w.heap.size) (t : TypeId) : NmsR (w.alloc (.cells #[.slice A n.length c, .slice B m.length d] t)) (some ⟨k, 0, none⟩) [n, m] := by
 intro _
 subst hk
 refine ⟨_, 0, rfl, by simp, fun i hi => ?_⟩
 have hb := (Below.refl w.heap.size w).alloc (Nat.le_refl _) (.cells #[.slice A n.length c, .slice B m.length d] t)
 have hb1 := Blk.new w t [.slice A n.length c, .slice B m.length d]
 have hi0 : i = 0 ∨ i = 1 := by simp at hi; omega
 rcases hi0 with rfl | rfl
 ·
  exact ⟨A, c, hb1.cell_ 0 rfl, h.below hb⟩
 ·
  exact ⟨B, d, hb1.cell_ 1 rfl, h2.below hb⟩
set_option maxHeartbeats 2000000 in
theorem has_5 (vn vm : Value) (At : Option Addr) (ct : Nat) (r : RR) (hr : r.wf) (hn : vn.oneCell' = true) (hm : vm.oneCell' = true) (w : World) (hT : NmR w At ct r.tg) (hk : kindR r.ty r.cl = 5 ∨ kindR r.ty r.cl = 12) :
  Calls prog 338 #[.agg (rrC vn (.slice At r.tg.length ct) vm r).toArray] w (RetB (.tuple #[.agg (rrC vn nilS vm { r with tg := [] }).toArray, .int .i64 (checkN r.tg)]) w) := by
 obtain ⟨vt, hvt⟩ : ∃ v, v = Value.slice At r.tg.length ct := ⟨_, rfl⟩
 have ht : vt.oneCell' = true := by rw [hvt]; rfl
 rw [← hvt]
 have hl := rrC_len (vn := vn) (vt := vt) (vm := vm) hr
 have L1? := rrC_1 (vn := vn) (vt := vt) (vm := vm) (r := r)
 have L2? := rrC_2 (vn := vn) (vt := vt) (vm := vm) (r := r)
 have L22 := rrC_22 (vn := vn) (vt := vt) (vm := vm) hr
 have LS := Hh (rrC_setTg (vn := vn) (vt := vt) (vm := vm) hr nilS)
 have L1c := Hh (rrC_one (r := r) hn ht hm)
 have L4c := Hh (rrC_one (vt := nilS) (r := { r with tg := [] }) hn rfl hm)
 have L4l := rrC_len (vn := vn) (vt := nilS) (vm := vm) (r := { r with tg := [] }) hr
 have K := Hh (fun w => kindOf_any r.ty r.cl w)
 have E := Hh (namesE_one r.tg)
 change Hid (_ = rrC vn nilS vm { r with tg := [] }) at LS
 generalize rrC vn nilS vm { r with tg := [] } = L4 at *
 generalize rrC vn vt vm r = L at *
 generalize checkN r.tg = e at *
 generalize kindR r.ty r.cl = k at *
 generalize r.ty = ty at *
 generalize r.cl = cl at *
 rcases hk with rfl | rfl
 all_goals
  have B0 := Blk.new w 96 L
  go_enter func338, ntmps338
  go_wp2_with (first
   | (refine at_op (.load 96 (.tmp 1)) rfl ?_; go_must (refine wpList_ldB rfl _ _ rfl w.heap.size 0 rfl (Blk.alloc (Blk.new w 96 L) _) 33 (by omega) _ underlying96 rfl rrInfo L (tk0 (by omega)) ?_))
   | (refine at_op (.store 96 (.tmp 4) (.tmp 6)) rfl ?_; go_must (refine wpList_stB rfl _ _ _ rfl (w.heap.size + 1 + 1) 0 rfl L rfl (Blk.new' _ _ rrZ _ (by simp)) (by rw [rrZ_len]; omega) (by rw [hl]; exact rrInfo) L1c.out ?_)))
  intro w3 hb3 hg3 hs3
  have B1 : Blk w3 w.heap.size 96 L := ((B0.alloc _).alloc _).grown hg3 (by simp; omega)
  have B2 : Blk w3 (w.heap.size + 1) 96 rrZ := ((Blk.new' _ 96 rrZ _ (by simp)).alloc _).grown hg3 (by simp)
  have B4 : Blk w3 (w.heap.size + 1 + 1) 96 L := by rw [List.drop_of_length_le (by rw [rrZ_len]; omega), List.append_nil] at hb3; exact hb3
  have HB : Below w.heap.size w w3 := below_grown ((((Below.refl _ _).alloc (Nat.le_refl _) _).alloc (by simp) _).alloc (by simp; omega) _) hg3 (by simp; omega) (by omega)
  clear hb3 hg3 B0
  have u1 := B1.cell_ 1 L1?
  have u2 := B1.cell_ 2 L2?
  clear L1? L2?
  go_wp2_with fail
  refine (K.out _).mono ?_
  rintro _ w4 ⟨rfl, rfl⟩
  clear K u1 u2
  have u22 := B4.cell_ 22 L22
  have f22 := B4.frozen 22
  go_wp2_with fail
  have B4' := B4.set 22 nilS
  rw [LS.out] at B4'
  have B1' := B1.far (p := ⟨w.heap.size + 1 + 1, 22, none⟩) (by simp; omega) nilS
  have B2' := B2.far (p := ⟨w.heap.size + 1 + 1, 22, none⟩) (by simp) nilS
  have HB' : Below w.heap.size w (w3.setCell ⟨w.heap.size + 1 + 1, 22, none⟩ nilS) := HB.setCell (by simp; omega) _
  have hs4 : (w3.setCell ⟨w.heap.size + 1 + 1, 22, none⟩ nilS).heap.size = w.heap.size + 1 + 1 + 1 := by simpa [World.setCell] using hs3
  change Code.wp _ _ _ _ (w3.setCell ⟨w.heap.size + 1 + 1, 22, none⟩ nilS)
  generalize w3.setCell ⟨w.heap.size + 1 + 1, 22, none⟩ nilS = w4 at *
  clear B1 B2 B4 HB f22 hs3 LS
  refine wp_region_held_drew (S := fun w' => Blk w' w.heap.size 96 L ∧ Blk w' (w.heap.size + 1 + 1) 96 L4) (by kernel_rfl) ⟨B1', B4'⟩ (fun hS => ?_)
  refine held_ld 0 (some 32) 96 (.tmp 4) ⟨w.heap.size + 1 + 1, 0, none⟩ rfl rfl rfl rfl (by kernel_rfl) (by kernel_rfl) (by kernel_rfl) (fun _ _ _ h => h) rfl (fun W hW => hW.2.loads 96 0 33 (by omega) _ underlying96 rfl rrInfo L4 (tk0 (by omega))) hS ?_
  simp only [Act.put, lsA, lsB, lsC]
  (refine held_val 1 (some 33) rfl rfl (by kernel_rfl) (by kernel_rfl) (by kernel_rfl) (fun _ _ _ h => h) (by kernel_rfl) (fun W hW => rfl) hS ?_; simp only [Act.put, lsA, lsB, lsC])
  refine held_ld 2 (some 34) 81 (.tmp 33) ⟨w.heap.size, 22, none⟩ rfl rfl rfl rfl (by kernel_rfl) (by kernel_rfl) (by kernel_rfl) (fun _ _ _ h => h) (by kernel_rfl) (fun W hW => run_load1 underlying81 rfl (hW.1.cell_ 22 L22)) hS ?_
  simp only [Act.put, lsA, lsB, lsC]
  have HB5 : Below w.heap.size w w4.drew := below_drewN HB' 1
  refine held_run 3 (some 35) (by kernel_rfl) rfl rfl (by kernel_rfl) (v := .slice (some ⟨w4.drew.heap.size, 0, none⟩) 1 1) (w' := w4.drew.alloc (.cells #[vt] 81)) (by go_simp) ⟨hS.1.alloc _, hS.2.alloc _⟩ ?_
  simp only [Act.put, lsA, lsB, lsC]
  have AN := rnames_any (some ⟨w4.drew.heap.size, 0, none⟩) 1 [r.tg] _ (hvt ▸ NmsR.new1 (hT.below HB5) w4.drew.heap.size rfl 81) (by simp)
  rw [E.out] at AN
  refine held_call 4 (some 36) 348 #[.slice (some ⟨w4.drew.heap.size, 0, none⟩) 1 1] (by kernel_rfl) rfl rfl (by kernel_rfl) (by go_simp) AN ?_
  rintro _ w5 ⟨rfl, b5⟩
  have HB'' : Below w.heap.size w w5 := b5 ▸ HB5.alloc HB5.size _
  have B1'' : Blk w5 w.heap.size 96 L := b5 ▸ hS.1.alloc _
  have B4'' : Blk w5 (w.heap.size + 1 + 1) 96 L4 := b5 ▸ hS.2.alloc _
  have B2'' : Blk w5 (w.heap.size + 1) 96 rrZ := b5 ▸ B2'.drew.alloc _
  refine ⟨_, rfl, ⟨B1'', B4''⟩, ?_⟩
  clear hS B1' B4' B2' HB' HB5 b5 AN
  simp only [Act.put, lsA, lsB, lsC]
  refine held_stB 5 none 96 (.tmp 2) (.tmp 32) (by kernel_rfl) rfl rfl rfl (by kernel_rfl) (w.heap.size + 1) 0 rfl L4 rfl B2'' (by rw [rrZ_len]; omega) (by rw [L4l]; exact rrInfo) L4c.out ?_
  intro w6 hb6 hg6 hs6
  rw [whole_of (by rw [rrZ_len]; omega)] at hb6
  have HB6 : Below w.heap.size w w6 := below_grown HB'' hg6 HB''.size (by omega)
  have hS : Blk w6 w.heap.size 96 L ∧ Blk w6 (w.heap.size + 1 + 1) 96 L4 := ⟨B1''.grown hg6 (by simp), B4''.grown hg6 (by simp)⟩
  refine ⟨hS, ?_⟩
  clear B1'' B4'' B2'' HB'' hg6
  simp only [Act.put, lsA, lsB, lsC]
  (refine held_val 6 (some 3) rfl rfl (by kernel_rfl) (by kernel_rfl) (by kernel_rfl) (fun _ _ _ h => h) (by kernel_rfl) (fun W hW => rfl) hS ?_; simp only [Act.put, lsA, lsB, lsC])
  refine wpAnyH_done (by kernel_rfl) ?_ _
  clear hS
  go_wp2_with fail
  refine ret_cell_tmp rfl (w.heap.size + 1) rfl hb6 _ underlying96 rfl (by rw [L4l]; exact rrInfo) rfl (.int .i64 e) rfl ?_
  exact RetB.mk rfl HB6
theorem IntsR.new {w : World} (l : List Int) (k : Nat) (hk : k = w.heap.size) (t : TypeId) : IntsR (w.alloc (.cells (ints64 l).toArray t)) (some ⟨k, 0, none⟩) l := by
 intro _
 subst hk
 refine ⟨_, 0, rfl, by simp, fun i hi => ?_⟩
 rw [Nat.zero_add]
 exact (Blk.new w t (ints64 l)).cell_ i (by simp [ints64, hi])
theorem IntsR.at {w : World} {g : Nat} {t : TypeId} {L : List Value} {l : List Int} (h : Blk w g t L) (o : Nat) (hl : (L.drop o).take l.length = ints64 l) : IntsR w (some ⟨g, o, none⟩) l := by
 intro _
 refine ⟨_, o, rfl, h.lt, fun i hi => ?_⟩
 refine h.cell_ (o + i) ?_
 have h1 : ((L.drop o).take l.length)[i]? = some (.int .i64 l[i]) := by rw [hl]; simp [ints64, hi]
 rw [List.getElem?_take_of_lt hi, List.getElem?_drop] at h1
 exact h1
theorem rrS {w : World} {g : Nat} {t : TypeId} {L L' : List Value} {i : Nat} {v : Value} (h : Blk w g t L) (he : L.set i v = L') : Blk (w.setCell ⟨g, i, none⟩ v) g t L' := he ▸ h.set i v
set_option maxHeartbeats 4000000 in
theorem has_33 (vn vm : Value) (At : Option Addr) (ct : Nat) (r : RR) (hr : r.wf) (hn : vn.oneCell' = true) (hm : vm.oneCell' = true) (w : World) (hT : NmR w At ct r.tg) (hk : kindR r.ty r.cl = 33) :
  Calls prog 338 #[.agg (rrC vn (.slice At r.tg.length ct) vm r).toArray] w (RetB (.tuple #[.agg (rrC vn nilS vm { r with pri := 0, we := 0, po := 0, tg := [] }).toArray, .int .i64 (if [r.pri, r.we, r.po].all (inB 65535) then checkN r.tg else 4)]) w) := by
 obtain ⟨vt, hvt⟩ : ∃ v, v = Value.slice At r.tg.length ct := ⟨_, rfl⟩
 have ht : vt.oneCell' = true := by rw [hvt]; rfl
 rw [← hvt]
 have hl := rrC_len (vn := vn) (vt := vt) (vm := vm) hr
 have L1? := rrC_1 (vn := vn) (vt := vt) (vm := vm) (r := r)
 have L2? := rrC_2 (vn := vn) (vt := vt) (vm := vm) (r := r)
 have L22 := rrC_22 (vn := vn) (vt := vt) (vm := vm) hr
 have L24 := rrC_24 (vn := vn) (vt := vt) (vm := vm) hr
 have L25 := rrC_25 (vn := vn) (vt := vt) (vm := vm) hr
 have L26 := rrC_26 (vn := vn) (vt := vt) (vm := vm) hr
 have LS : Hid (((((rrC vn vt vm r).set 24 (.int .i64 0)).set 25 (.int .i64 0)).set 26 (.int .i64 0)).set 22 nilS = rrC vn nilS vm { r with pri := 0, we := 0, po := 0, tg := [] }) := Hh (by
  rw [rrC_setPri hr, rrC_setWe (r := { r with pri := 0 }) hr, rrC_setPo (r := { r with pri := 0, we := 0 }) hr, rrC_setTg (r := { r with pri := 0, we := 0, po := 0 }) hr]; rfl)
 have L1c := Hh (rrC_one (r := r) hn ht hm)
 have L4c := Hh (rrC_one (vt := nilS) (r := { r with pri := 0, we := 0, po := 0, tg := [] }) hn rfl hm)
 have L4l := rrC_len (vn := vn) (vt := nilS) (vm := vm) (r := { r with pri := 0, we := 0, po := 0, tg := [] }) hr
 have K := Hh (fun w => kindOf_any r.ty r.cl w)
 rw [hk] at K
 have E := Hh (namesE_one r.tg)
 have WI := Hh (fun w A h => rwithin_any 65535 A 3 [r.pri, r.we, r.po] w h (by simp))
 generalize rrC vn nilS vm { r with pri := 0, we := 0, po := 0, tg := [] } = L4 at *
 generalize rrC vn vt vm r = L at *
 generalize checkN r.tg = e at *
 generalize hB3 : [r.pri, r.we, r.po].all (inB 65535) = b3 at *
 generalize r.pri = n1 at *
 generalize r.we = n2 at *
 generalize r.po = n3 at *
 clear hB3
 generalize r.ty = ty at *
 generalize r.cl = cl at *
 clear hk
 generalize hres : (if b3 = true then e else 4) = res
 have hres' := Hh hres
 clear hres
 have B0 := Blk.new w 96 L
 go_enter func338, ntmps338
 go_wp2_with (first
  | (refine at_op (.load 96 (.tmp 1)) rfl ?_; go_must (refine wpList_ldB rfl _ _ rfl w.heap.size 0 rfl (Blk.alloc (Blk.new w 96 L) _) 33 (by omega) _ underlying96 rfl rrInfo L (tk0 (by omega)) ?_))
  | (refine at_op (.store 96 (.tmp 4) (.tmp 6)) rfl ?_; go_must (refine wpList_stB rfl _ _ _ rfl (w.heap.size + 1 + 1) 0 rfl L rfl (Blk.new' _ _ rrZ _ (by simp)) (by rw [rrZ_len]; omega) (by rw [hl]; exact rrInfo) L1c.out ?_)))
 intro w3 hb3 hg3 hs3
 have B1 : Blk w3 w.heap.size 96 L := ((B0.alloc _).alloc _).grown hg3 (by simp; omega)
 have B2 : Blk w3 (w.heap.size + 1) 96 rrZ := ((Blk.new' _ 96 rrZ _ (by simp)).alloc _).grown hg3 (by simp)
 have B4 : Blk w3 (w.heap.size + 1 + 1) 96 L := by rw [List.drop_of_length_le (by rw [rrZ_len]; omega), List.append_nil] at hb3; exact hb3
 have HB : Below w.heap.size w w3 := below_grown ((((Below.refl _ _).alloc (Nat.le_refl _) _).alloc (by simp) _).alloc (by simp; omega) _) hg3 (by simp; omega) (by omega)
 clear hb3 hg3 B0
 have u1 := B1.cell_ 1 L1?
 have u2 := B1.cell_ 2 L2?
 clear L1? L2?
 go_wp2_with fail
 refine (K.out _).mono ?_
 rintro _ w4 ⟨rfl, rfl⟩
 clear K u1 u2
 have u22 := B4.cell_ 22 L22
 have u24 := B4.cell_ 24 L24
 have u25 := B4.cell_ 25 L25
 have u26 := B4.cell_ 26 L26
 have v24 := B1.cell_ 24 L24
 have v25 := B1.cell_ 25 L25
 have v26 := B1.cell_ 26 L26
 have f22 := B4.frozen 22
 have f24 := B4.frozen 24
 have f25 := B4.frozen 25
 have f26 := B4.frozen 26
 go_wp2_with fail
 have B4s := rrS (((B4.set 24 (.int .i64 0)).set 25 (.int .i64 0)).set 26 (.int .i64 0)) LS.out
 have hne : w.heap.size ≠ w.heap.size + 1 + 1 := by omega
 have hne2 : w.heap.size + 1 ≠ w.heap.size + 1 + 1 := by omega
 have B1s := (((B1.far (p := ⟨w.heap.size + 1 + 1, 24, none⟩) hne (.int .i64 0)).far (p := ⟨w.heap.size + 1 + 1, 25, none⟩) hne (.int .i64 0)).far (p := ⟨w.heap.size + 1 + 1, 26, none⟩) hne (.int .i64 0)).far (p := ⟨w.heap.size + 1 + 1, 22, none⟩) hne nilS
 have B2s := (((B2.far (p := ⟨w.heap.size + 1 + 1, 24, none⟩) hne2 (.int .i64 0)).far (p := ⟨w.heap.size + 1 + 1, 25, none⟩) hne2 (.int .i64 0)).far (p := ⟨w.heap.size + 1 + 1, 26, none⟩) hne2 (.int .i64 0)).far (p := ⟨w.heap.size + 1 + 1, 22, none⟩) hne2 nilS
 have HBs := (((HB.setCell (p := ⟨w.heap.size + 1 + 1, 24, none⟩) (by simp; omega) (.int .i64 0)).setCell (p := ⟨w.heap.size + 1 + 1, 25, none⟩) (by simp; omega) (.int .i64 0)).setCell (p := ⟨w.heap.size + 1 + 1, 26, none⟩) (by simp; omega) (.int .i64 0)).setCell (p := ⟨w.heap.size + 1 + 1, 22, none⟩) (by simp; omega) nilS
 have hss : ((((w3.setCell ⟨w.heap.size + 1 + 1, 24, none⟩ (.int .i64 0)).setCell ⟨w.heap.size + 1 + 1, 25, none⟩ (.int .i64 0)).setCell ⟨w.heap.size + 1 + 1, 26, none⟩ (.int .i64 0)).setCell ⟨w.heap.size + 1 + 1, 22, none⟩ nilS).heap.size = w.heap.size + 1 + 1 + 1 := by simpa [World.setCell] using hs3
 change Calls _ _ _ (World.alloc ((((w3.setCell ⟨w.heap.size + 1 + 1, 24, none⟩ (.int .i64 0)).setCell ⟨w.heap.size + 1 + 1, 25, none⟩ (.int .i64 0)).setCell ⟨w.heap.size + 1 + 1, 26, none⟩ (.int .i64 0)).setCell ⟨w.heap.size + 1 + 1, 22, none⟩ nilS) _) _
 generalize (((w3.setCell ⟨w.heap.size + 1 + 1, 24, none⟩ (.int .i64 0)).setCell ⟨w.heap.size + 1 + 1, 25, none⟩ (.int .i64 0)).setCell ⟨w.heap.size + 1 + 1, 26, none⟩ (.int .i64 0)).setCell ⟨w.heap.size + 1 + 1, 22, none⟩ nilS = w7 at *
 clear B1 B2 B4 HB f22 f24 f25 f26 v24 v25 v26 LS hs3 L24 L25 L26
 refine (WI.out _ _ (IntsR.new [n1, n2, n3] _ hss.symm 3)).mono ?_
 rintro _ w8 ⟨rfl, rfl⟩
 clear WI
 have B1' := B1s.alloc (.cells (ints64 [n1, n2, n3]).toArray 3)
 have B2' := B2s.alloc (.cells (ints64 [n1, n2, n3]).toArray 3)
 have B4' := B4s.alloc (.cells (ints64 [n1, n2, n3]).toArray 3)
 have HB' := HBs.alloc HBs.size (.cells (ints64 [n1, n2, n3]).toArray 3)
 have hs4 : (w7.alloc (.cells (ints64 [n1, n2, n3]).toArray 3)).heap.size = w.heap.size + 1 + 1 + 1 + 1 := by simpa using hss
 generalize w7.alloc (.cells (ints64 [n1, n2, n3]).toArray 3) = w4 at *
 clear B1s B2s B4s HBs hss
 cases b3 with
 | true =>
  have hr1 : e = res := by simpa using hres'.out
  subst hr1
  clear hres'
  go_wp2_with fail
  refine wp_region_held_drew (S := fun w' => Blk w' w.heap.size 96 L ∧ Blk w' (w.heap.size + 1 + 1) 96 L4) (by kernel_rfl) ⟨B1', B4'⟩ (fun hS => ?_)
  refine held_ld 0 (some 53) 96 (.tmp 4) ⟨w.heap.size + 1 + 1, 0, none⟩ rfl rfl rfl rfl (by kernel_rfl) (by kernel_rfl) (by kernel_rfl) (fun _ _ _ h => h) rfl (fun W hW => hW.2.loads 96 0 33 (by omega) _ underlying96 rfl rrInfo L4 (tk0 (by omega))) hS ?_
  simp only [Act.put, lsA, lsB, lsC]
  (refine held_val 1 (some 54) rfl rfl (by kernel_rfl) (by kernel_rfl) (by kernel_rfl) (fun _ _ _ h => h) (by kernel_rfl) (fun W hW => rfl) hS ?_; simp only [Act.put, lsA, lsB, lsC])
  refine held_ld 2 (some 55) 81 (.tmp 54) ⟨w.heap.size, 22, none⟩ rfl rfl rfl rfl (by kernel_rfl) (by kernel_rfl) (by kernel_rfl) (fun _ _ _ h => h) (by kernel_rfl) (fun W hW => run_load1 underlying81 rfl (hW.1.cell_ 22 L22)) hS ?_
  simp only [Act.put, lsA, lsB, lsC]
  have HB5 : Below w.heap.size w w4.drew := below_drewN HB' 1
  refine held_run 3 (some 56) (by kernel_rfl) rfl rfl (by kernel_rfl) (v := .slice (some ⟨w4.drew.heap.size, 0, none⟩) 1 1) (w' := w4.drew.alloc (.cells #[vt] 81)) (by go_simp) ⟨hS.1.alloc _, hS.2.alloc _⟩ ?_
  simp only [Act.put, lsA, lsB, lsC]
  have AN := rnames_any (some ⟨w4.drew.heap.size, 0, none⟩) 1 [r.tg] _ (hvt ▸ NmsR.new1 (hT.below HB5) w4.drew.heap.size rfl 81) (by simp)
  rw [E.out] at AN
  refine held_call 4 (some 57) 348 #[.slice (some ⟨w4.drew.heap.size, 0, none⟩) 1 1] (by kernel_rfl) rfl rfl (by kernel_rfl) (by go_simp) AN ?_
  rintro _ w5 ⟨rfl, b5⟩
  have HB'' : Below w.heap.size w w5 := b5 ▸ HB5.alloc HB5.size _
  have B1'' : Blk w5 w.heap.size 96 L := b5 ▸ hS.1.alloc _
  have B4'' : Blk w5 (w.heap.size + 1 + 1) 96 L4 := b5 ▸ hS.2.alloc _
  have B2'' : Blk w5 (w.heap.size + 1) 96 rrZ := b5 ▸ B2'.drew.alloc _
  refine ⟨_, rfl, ⟨B1'', B4''⟩, ?_⟩
  clear hS B1' B4' B2' HB' HB5 b5 AN
  simp only [Act.put, lsA, lsB, lsC]
  refine held_stB 5 none 96 (.tmp 2) (.tmp 53) (by kernel_rfl) rfl rfl rfl (by kernel_rfl) (w.heap.size + 1) 0 rfl L4 rfl B2'' (by rw [rrZ_len]; omega) (by rw [L4l]; exact rrInfo) L4c.out ?_
  intro w6 hb6 hg6 hs6
  rw [whole_of (by rw [rrZ_len]; omega)] at hb6
  have HB6 : Below w.heap.size w w6 := below_grown HB'' hg6 HB''.size (by omega)
  have hS : Blk w6 w.heap.size 96 L ∧ Blk w6 (w.heap.size + 1 + 1) 96 L4 := ⟨B1''.grown hg6 (by simp), B4''.grown hg6 (by simp)⟩
  refine ⟨hS, ?_⟩
  clear B1'' B4'' B2'' HB'' hg6
  simp only [Act.put, lsA, lsB, lsC]
  (refine held_val 6 (some 3) rfl rfl (by kernel_rfl) (by kernel_rfl) (by kernel_rfl) (fun _ _ _ h => h) (by kernel_rfl) (fun W hW => rfl) hS ?_; simp only [Act.put, lsA, lsB, lsC])
  refine wpAnyH_done (by kernel_rfl) ?_ _
  clear hS
  go_wp2_with fail
  refine ret_cell_tmp rfl (w.heap.size + 1) rfl hb6 _ underlying96 rfl (by rw [L4l]; exact rrInfo) rfl (.int .i64 e) rfl ?_
  exact RetB.mk rfl HB6
 | false =>
  have hr1 : (4 : Int) = res := by simpa using hres'.out
  subst hr1
  clear hres'
  have B4 := B4'
  have B2 := B2'
  have HB := HB'
  go_wp2_with (first
   | (refine at_op (.load 96 (.tmp 4)) rfl ?_; go_must (refine wpList_ldB rfl _ _ rfl (w.heap.size + 1 + 1) 0 rfl B4 33 (by omega) _ underlying96 rfl rrInfo L4 (tk0 (by omega)) ?_))
   | (refine at_op (.store 96 (.tmp 2) (.tmp 52)) rfl ?_; go_must (refine wpList_stB rfl _ _ _ rfl (w.heap.size + 1) 0 rfl L4 rfl B2 (by rw [rrZ_len]; omega) (by rw [L4l]; exact rrInfo) L4c.out ?_)))
  intro w6 hb6 hg6 hs6
  rw [List.drop_of_length_le (by rw [rrZ_len]; omega), List.append_nil] at hb6
  have HB6 : Below w.heap.size w w6 := below_grown HB hg6 HB.size (by omega)
  clear hg6
  go_wp2_with fail
  refine ret_cell_tmp rfl (w.heap.size + 1) rfl hb6 _ underlying96 rfl (by rw [L4l]; exact rrInfo) rfl _ rfl ?_
  exact RetB.mk rfl HB6
set_option maxHeartbeats 2000000 in
theorem has_0 (vn vt vm : Value) (r : RR) (hr : r.wf) (hn : vn.oneCell' = true) (ht : vt.oneCell' = true) (hm : vm.oneCell' = true) (w : World) (hraw : r.raw.length ≤ 140737488355328) (hk : kindR r.ty r.cl = 0) :
  Calls prog 338 #[.agg (rrC vn vt vm r).toArray] w (RetB (.tuple #[.agg (rrC vn vt vm { r with raw := [] }).toArray, .int .i64 (if 65535 < r.raw.length then 3 else 0)]) w) := by
 have hl := rrC_len (vn := vn) (vt := vt) (vm := vm) hr
 have L1? := rrC_1 (vn := vn) (vt := vt) (vm := vm) (r := r)
 have L2? := rrC_2 (vn := vn) (vt := vt) (vm := vm) (r := r)
 have L32 := rrC_32 (vn := vn) (vt := vt) (vm := vm) hr
 have LS := Hh (rrC_setRaw (vn := vn) (vt := vt) (vm := vm) hr [])
 have L1c := Hh (rrC_one (r := r) hn ht hm)
 have L4c := Hh (rrC_one (r := { r with raw := [] }) hn ht hm)
 have L4l := rrC_len (vn := vn) (vt := vt) (vm := vm) (r := { r with raw := [] }) hr
 have K := Hh (fun w => kindOf_any r.ty r.cl w)
 rw [hk] at K
 generalize rrC vn vt vm { r with raw := [] } = L4 at *
 generalize rrC vn vt vm r = L at *
 generalize r.raw = raw at *
 generalize r.ty = ty at *
 generalize r.cl = cl at *
 clear hk
 generalize hres : (if 65535 < raw.length then (3 : Int) else 0) = res
 have hres' := Hh hres
 clear hres
 have B0 := Blk.new w 96 L
 go_enter func338, ntmps338
 go_wp2_with (first
  | (refine at_op (.load 96 (.tmp 1)) rfl ?_; go_must (refine wpList_ldB rfl _ _ rfl w.heap.size 0 rfl (Blk.alloc (Blk.new w 96 L) _) 33 (by omega) _ underlying96 rfl rrInfo L (tk0 (by omega)) ?_))
  | (refine at_op (.store 96 (.tmp 4) (.tmp 6)) rfl ?_; go_must (refine wpList_stB rfl _ _ _ rfl (w.heap.size + 1 + 1) 0 rfl L rfl (Blk.new' _ _ rrZ _ (by simp)) (by rw [rrZ_len]; omega) (by rw [hl]; exact rrInfo) L1c.out ?_)))
 intro w3 hb3 hg3 hs3
 have B1 : Blk w3 w.heap.size 96 L := ((B0.alloc _).alloc _).grown hg3 (by simp; omega)
 have B2 : Blk w3 (w.heap.size + 1) 96 rrZ := ((Blk.new' _ 96 rrZ _ (by simp)).alloc _).grown hg3 (by simp)
 have B4 : Blk w3 (w.heap.size + 1 + 1) 96 L := by rw [List.drop_of_length_le (by rw [rrZ_len]; omega), List.append_nil] at hb3; exact hb3
 have HB : Below w.heap.size w w3 := below_grown ((((Below.refl _ _).alloc (Nat.le_refl _) _).alloc (by simp) _).alloc (by simp; omega) _) hg3 (by simp; omega) (by omega)
 clear hb3 hg3 B0
 have u1 := B1.cell_ 1 L1?
 have u2 := B1.cell_ 2 L2?
 clear L1? L2?
 go_wp2_with fail
 refine (K.out _).mono ?_
 rintro _ w4 ⟨rfl, rfl⟩
 clear K u1 u2
 have u32 := B4.cell_ 32 L32
 have v32 := B1.cell_ 32 L32
 have f32 := B4.frozen 32
 have B4s := rrS B4 LS.out
 have hne : w.heap.size ≠ w.heap.size + 1 + 1 := by omega
 have hne2 : w.heap.size + 1 ≠ w.heap.size + 1 + 1 := by omega
 have B1s := B1.far (p := ⟨w.heap.size + 1 + 1, 32, none⟩) hne (.string (bs []))
 have B2s := B2.far (p := ⟨w.heap.size + 1 + 1, 32, none⟩) hne2 (.string (bs []))
 have HBs := HB.setCell (p := ⟨w.heap.size + 1 + 1, 32, none⟩) (by simp; omega) (.string (bs []))
 clear B1 B2 B4 HB L32 LS
 have B4 := B4s
 have B2 := B2s
 have HB := HBs
 have hs4 : (w3.setCell ⟨w.heap.size + 1 + 1, 32, none⟩ (.string (bs []))).heap.size = w.heap.size + 1 + 1 + 1 := by simpa [World.setCell] using hs3
 clear B4s B2s HBs B1s
 by_cases hlong : 65535 < raw.length
 ·
  have hr1 : (3 : Int) = res := by rw [← hres'.out, if_pos hlong]
  have hd : decide (65535 < (raw.length : Int)) = true := decide_eq_true (by omega)
  subst hr1
  clear hres'
  go_wp2_with (first
   | (refine at_op (.load 96 (.tmp 4)) rfl ?_; go_must (refine wpList_ldB rfl _ _ rfl (w.heap.size + 1 + 1) 0 rfl B4 33 (by omega) _ underlying96 rfl rrInfo L4 (tk0 (by omega)) ?_))
   | (refine at_op (.store 96 (.tmp 2) (.tmp 85)) rfl ?_; go_must (refine wpList_stB rfl _ _ _ rfl (w.heap.size + 1) 0 rfl L4 rfl B2 (by rw [rrZ_len]; omega) (by rw [L4l]; exact rrInfo) L4c.out ?_)))
  intro w6 hb6 hg6 hs6
  rw [List.drop_of_length_le (by rw [rrZ_len]; omega), List.append_nil] at hb6
  have HB6 : Below w.heap.size w w6 := below_grown HB hg6 HB.size (by omega)
  clear hg6
  go_wp2_with fail
  refine ret_cell_tmp rfl (w.heap.size + 1) rfl hb6 _ underlying96 rfl (by rw [L4l]; exact rrInfo) rfl _ rfl ?_
  exact RetB.mk rfl HB6
 ·
  have hr1 : (0 : Int) = res := by rw [← hres'.out, if_neg hlong]
  have hd : decide (65535 < (raw.length : Int)) = false := decide_eq_false (by omega)
  subst hr1
  clear hres'
  go_wp2_with (first
   | (refine at_op (.load 96 (.tmp 4)) rfl ?_; go_must (refine wpList_ldB rfl _ _ rfl (w.heap.size + 1 + 1) 0 rfl B4 33 (by omega) _ underlying96 rfl rrInfo L4 (tk0 (by omega)) ?_))
   | (refine at_op (.store 96 (.tmp 2) (.tmp 86)) rfl ?_; go_must (refine wpList_stB rfl _ _ _ rfl (w.heap.size + 1) 0 rfl L4 rfl B2 (by rw [rrZ_len]; omega) (by rw [L4l]; exact rrInfo) L4c.out ?_)))
  intro w6 hb6 hg6 hs6
  rw [List.drop_of_length_le (by rw [rrZ_len]; omega), List.append_nil] at hb6
  have HB6 : Below w.heap.size w w6 := below_grown HB hg6 HB.size (by omega)
  clear hg6
  go_wp2_with fail
  refine ret_cell_tmp rfl (w.heap.size + 1) rfl hb6 _ underlying96 rfl (by rw [L4l]; exact rrInfo) rfl _ rfl ?_
  exact RetB.mk rfl HB6
end Go.Proofs.YteimenplbanooaaGreatDoor
