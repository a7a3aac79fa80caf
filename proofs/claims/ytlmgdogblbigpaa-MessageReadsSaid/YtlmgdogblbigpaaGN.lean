/-
  Layer 13 (rdata): a table, or none; what a record's data are.
-/
import Derived.Test.YtlmgdogblbigpaaGM
namespace Go.Proofs.Ytlmgdogblbigpaa
open Go.RowKit
set_option maxRecDepth 100000
set_option linter.unusedVariables false

abbrev Tab := List (List (List UInt8) × Nat)
/-- A pointer to a table that lies from lo on, or none. -/
def TabO (lo : Nat) (w : World) (p : Option Addr) : Option Tab → Prop
  | none => p = none
  | some T => ∃ g b, p = some ⟨g, 0, none⟩ ∧ lo ≤ g ∧ lo ≤ b ∧ TabAt w g b T
def putSO (T : Option Tab) (at_ : Int) (n : List (List UInt8)) : List UInt8 := match T with
  | none => putZ n
  | some T => putS T at_ n
def putTO (T : Option Tab) (at_ : Int) (n : List (List UInt8)) : Option Tab := T.map fun T => putT T at_ n
def fewO (T : Option Tab) (k : Nat) : Prop := ∀ T', T = some T' → T'.length ≤ k
theorem fewO.put {T : Option Tab} {k : Nat} (h : fewO T k) (at_ : Int) (n : List (List UInt8)) : fewO (putTO T at_ n) (k + 254) := by
  intro T' hT'
  cases T with
  | none => cases hT'
  | some T =>
    obtain rfl : putT T at_ n = T' := by simpa [putTO] using hT'
    have := h T rfl; have := putT_length T at_ n; omega
theorem TabO.below {lo : Nat} {w w' : World} {p : Option Addr} {T : Option Tab} (h : TabO lo w p T) (hb : Below w.heap.size w w') : TabO lo w' p T := by
  cases T with
  | none => exact h
  | some T => obtain ⟨g, b, h1, h2, h3, h4⟩ := h; exact ⟨g, b, h1, h2, h3, h4.below hb⟩
/-- What lies below lo is as it was; cells are as they were wherever they lie. -/
def Keep (lo : Nat) (w w' : World) : Prop := Below lo w w' ∧ ∀ (g : Nat) (t : TypeId) (cs : Array Value) (fz : Nat × Nat), w.heap[g]? = some (.cells cs t fz) → w'.heap[g]? = some (.cells cs t fz)
theorem Keep.blk {lo : Nat} {w w' : World} (h : Keep lo w w') {g : Nat} {t : TypeId} {cs : List Value} (hb : Blk w g t cs) : Blk w' g t cs := h.2 g t cs.toArray (0, 0) hb
theorem Keep.trans {lo : Nat} {w w1 w2 : World} (h : Keep lo w w1) (h' : Keep lo w1 w2) : Keep lo w w2 := ⟨h.1.trans h'.1, fun g t cs fz hb => h'.2 g t cs fz (h.2 g t cs fz hb)⟩
theorem heap_lt {w : World} {g : Nat} {o : Obj} (h : w.heap[g]? = some o) : g < w.heap.size := (Array.getElem?_eq_some_iff.1 h).1
theorem Keep.old {lo : Nat} {w w1 : World} (h : Below w.heap.size w w1) (hlo : lo ≤ w.heap.size) : Keep lo w w1 := ⟨h.mono hlo, fun g t cs fz hb => (h.block g (heap_lt hb)).trans hb⟩
def PutO (lo : Nat) (p : Option Addr) (s : List UInt8) (e : Int) (T : Option Tab) (w : World) (x : Ending) (w' : World) : Prop :=
  x = .returned (.tuple #[.string (bs s), .int .i64 e]) ∧ TabO lo w' p T ∧ Keep lo w w'
theorem putO_any (lo : Nat) (p : Option Addr) (T : Option Tab) (A : Option Addr) (c : Nat) (n : List (List UInt8)) (at_ : Int) (w : World) (hlo : lo ≤ w.heap.size) (hT : TabO lo w p T) (hA : NmR w A c n) (hf : fewO T 900000) :
    Calls Try.prog 24 #[.pointer p, .slice A n.length c, .int .i64 at_] w (PutO lo p (putSO T at_ n) (checkN n) (putTO T at_ n) w) := by
  cases T with
  | none =>
    obtain rfl : p = none := hT
    refine (putNil_any A c n at_ w hA).mono ?_
    rintro _ w' ⟨rfl, hB⟩
    exact ⟨rfl, rfl, Keep.old hB hlo⟩
  | some T =>
    obtain ⟨g, b, rfl, h2, h3, h4⟩ := hT
    refine (putTab_any g b T A c n at_ w h4 hA (hf T rfl)).mono ?_
    rintro _ w' ⟨rfl, h5, h6⟩
    have hne : ∀ (k : Nat) (t : TypeId) (cs : Array Value) (fz : Nat × Nat), w.heap[k]? = some (.cells cs t fz) → some k ≠ some b := by
      obtain ⟨_, ⟨f, ⟨D, ⟨es, cl, hm, _⟩, _⟩, _⟩, _⟩ := h4
      intro k t cs fz hb he
      obtain rfl := Option.some.inj he
      rw [hb] at hm; cases hm
    exact ⟨rfl, ⟨g, b, rfl, h2, h3, h5⟩, below_grown (Below.refl _ _) h6 hlo h3, fun k t cs fz hb => (h6.block k (heap_lt hb) (hne k t cs fz hb)).trans hb⟩
/-- The octets of a record that may be; the table behind it. -/
def dataR (T : Option Tab) (at_ : Int) (r : RR) : List UInt8 :=
  if kindR r.ty r.cl = 1 then r.ad.ip.take 4
  else if kindR r.ty r.cl = 28 then r.ad.ip
  else if kindR r.ty r.cl = 5 ∨ kindR r.ty r.cl = 12 then putSO T at_ r.tg
  else if kindR r.ty r.cl = 33 then putB 2 r.pri ++ putB 2 r.we ++ putB 2 r.po ++ putZ r.tg
  else if kindR r.ty r.cl = 6 then putSO T at_ r.tg ++ putSO (putTO T at_ r.tg) (at_ + (putSO T at_ r.tg).length) r.ml ++ r.nums.flatMap (putB 4)
  else r.raw
def tabR (T : Option Tab) (at_ : Int) (r : RR) : Option Tab :=
  if kindR r.ty r.cl = 5 ∨ kindR r.ty r.cl = 12 then putTO T at_ r.tg
  else if kindR r.ty r.cl = 6 then putTO (putTO T at_ r.tg) (at_ + (putSO T at_ r.tg).length) r.ml
  else T
theorem hasE_ok {r : RR} (h : checkR r = 0) : checkN r.name = 0 ∧ hasE r = 0 := by
  unfold checkR at h
  by_cases h1 : checkN r.name = 0
  · refine ⟨h1, ?_⟩
    rw [if_neg (by simp [h1])] at h
    split at h
    · omega
    · by_cases h2 : hasE r = 0
      · exact h2
      · rw [if_pos h2] at h; exact h
  · rw [if_pos h1] at h; exact absurd h h1
end Go.Proofs.Ytlmgdogblbigpaa
/-
  Layer 13 (rdata): Put, of addresses, names, and what is plain.
-/
namespace Go.Proofs.Ytlmgdogblbigpaa
open Go.RowKit
set_option maxRecDepth 100000
set_option linter.unusedVariables false
set_option linter.unusedSimpArgs false

theorem rput_bad (cs : List Value) (r : RR) (at_ : Int) (p : Option Addr) (w : World) (h : RRis w cs r) (hc : checkR r ≠ 0) :
    Calls Try.prog 51 #[.agg cs.toArray, .int .i64 at_, .pointer p] w (RetB (.tuple #[.string (bs []), .int .i64 (checkR r)]) w) := by
  have CK := Lib.hid (fun w' (b : Below w.heap.size w w') => rcheck_any cs r w' (h.below b))
  have hl : cs.length = 33 := by obtain ⟨_, _, _, _, _, _, rfl, hr, _⟩ := h; exact rrC_len hr
  generalize checkR r = e at *
  have he : (e != 0) = true := by simpa using hc
  clear hc h
  have B0 := Blk.new w 86 cs
  have HB0 : Below w.heap.size w (w.alloc (.cells cs.toArray 86)) := (Below.refl _ _).alloc (Nat.le_refl _) _
  go_enter Try.func51, Try.ntmps51
  go_wp2_with (refine at_op (.load 86 (.tmp 3)) rfl ?_; go_must (refine wpList_ldB rfl 86 (.tmp 3) rfl w.heap.size 0 rfl B0 33 (by omega) _ Try.underlying86 rfl rrInfo cs (by rw [List.drop_zero, List.take_of_length_le (by omega)]) ?_))
  go_wp2_with fail
  refine (CK.out _ HB0).mono ?_
  rintro _ w2 ⟨rfl, b2⟩
  have B := B0.below b2 B0.lt
  have HB := below_then HB0 HB0.size b2
  clear B0 HB0 b2 CK
  go_wp2_with fail
  go_ret2
  exact RetB.mk rfl HB
set_option maxHeartbeats 1000000 in
theorem rput_raw (cs : List Value) (r : RR) (at_ : Int) (p : Option Addr) (w : World) (h : RRis w cs r) (hc : checkR r = 0) (hk : kindR r.ty r.cl = 0) :
    Calls Try.prog 51 #[.agg cs.toArray, .int .i64 at_, .pointer p] w (RetB (.tuple #[.string (bs r.raw), .int .i64 0]) w) := by
  have CK := Lib.hid (fun w' (b : Below w.heap.size w w') => rcheck_any cs r w' (h.below b))
  have hl : cs.length = 33 := by obtain ⟨_, _, _, _, _, _, rfl, hr, _⟩ := h; exact rrC_len hr
  have L1 : cs[1]? = some (.int .i64 r.ty) := by obtain ⟨_, _, _, _, _, _, rfl, hr, _⟩ := h; rfl
  have L2 : cs[2]? = some (.int .i64 r.cl) := by obtain ⟨_, _, _, _, _, _, rfl, hr, _⟩ := h; rfl
  have L32 : cs[32]? = some (.string (bs r.raw)) := by obtain ⟨_, _, _, _, _, _, rfl, hr, _⟩ := h; exact rrC_32 hr
  have K := Lib.hid (fun w => kindOf_any r.ty r.cl w)
  rw [hk] at K
  rw [hc] at CK
  clear h hc hk
  generalize r.ty = ty at *
  generalize r.cl = cl at *
  have B0 := Blk.new w 86 cs
  have HB0 : Below w.heap.size w (w.alloc (.cells cs.toArray 86)) := (Below.refl _ _).alloc (Nat.le_refl _) _
  go_enter Try.func51, Try.ntmps51
  go_wp2_with (refine at_op (.load 86 (.tmp 3)) rfl ?_; go_must (refine wpList_ldB rfl 86 (.tmp 3) rfl w.heap.size 0 rfl B0 33 (by omega) _ Try.underlying86 rfl rrInfo cs (by rw [List.drop_zero, List.take_of_length_le (by omega)]) ?_))
  go_wp2_with fail
  refine (CK.out _ HB0).mono ?_
  rintro _ w2 ⟨rfl, b2⟩
  have B := B0.below b2 B0.lt
  have HB := below_then HB0 HB0.size b2
  clear B0 HB0 b2 CK
  have u1 := B.cell_ 1 L1
  have u2 := B.cell_ 2 L2
  go_wp2_with fail
  refine (K.out _).mono ?_
  rintro _ w3 ⟨rfl, rfl⟩
  have u32 := B.cell_ 32 L32
  clear K u1 u2 L1 L2 L32
  go_wp2_with fail
  go_ret2
  exact RetB.mk rfl HB
set_option maxHeartbeats 1000000 in
theorem rput_name (lo : Nat) (cs : List Value) (r : RR) (at_ : Int) (p : Option Addr) (T : Option Tab) (w : World) (h : RRis w cs r) (hlo : lo ≤ w.heap.size) (hT : TabO lo w p T) (hf : fewO T 900000) (hc : checkR r = 0) (hk : kindR r.ty r.cl = 5 ∨ kindR r.ty r.cl = 12) :
    Calls Try.prog 51 #[.agg cs.toArray, .int .i64 at_, .pointer p] w (PutO lo p (putSO T at_ r.tg) (checkN r.tg) (putTO T at_ r.tg) w) := by
  have CK := Lib.hid (fun w' (b : Below w.heap.size w w') => rcheck_any cs r w' (h.below b))
  have hl : cs.length = 33 := by obtain ⟨_, _, _, _, _, _, rfl, hr, _⟩ := h; exact rrC_len hr
  have L1 : cs[1]? = some (.int .i64 r.ty) := by obtain ⟨_, _, _, _, _, _, rfl, hr, _⟩ := h; rfl
  have L2 : cs[2]? = some (.int .i64 r.cl) := by obtain ⟨_, _, _, _, _, _, rfl, hr, _⟩ := h; rfl
  obtain ⟨At, ct, L22, hR⟩ : ∃ At ct, cs[22]? = some (.slice At r.tg.length ct) ∧ NmR w At ct r.tg := by
    obtain ⟨_, _, At, ct, _, _, rfl, hr, _, hR, _⟩ := h; exact ⟨At, ct, rrC_22 hr, hR⟩
  have K := Lib.hid (fun w => kindOf_any r.ty r.cl w)
  rw [hc] at CK
  clear h hc
  have PT := Lib.hid (fun w' (b : Below w.heap.size w w') => putO_any lo p T At ct r.tg at_ w' (Nat.le_trans hlo b.size) (hT.below b) (hR.below b) hf)
  generalize putSO T at_ r.tg = s at *
  generalize putTO T at_ r.tg = T' at *
  generalize checkN r.tg = e at *
  generalize r.tg.length = n at *
  generalize kindR r.ty r.cl = k at *
  generalize r.ty = ty at *
  generalize r.cl = cl at *
  clear hT hf hR
  rcases hk with rfl | rfl
  all_goals
    have B0 := Blk.new w 86 cs
    have HB0 : Below w.heap.size w (w.alloc (.cells cs.toArray 86)) := (Below.refl _ _).alloc (Nat.le_refl _) _
    go_enter Try.func51, Try.ntmps51
    go_wp2_with (refine at_op (.load 86 (.tmp 3)) rfl ?_; go_must (refine wpList_ldB rfl 86 (.tmp 3) rfl w.heap.size 0 rfl B0 33 (by omega) _ Try.underlying86 rfl rrInfo cs (by rw [List.drop_zero, List.take_of_length_le (by omega)]) ?_))
    go_wp2_with fail
    refine (CK.out _ HB0).mono ?_
    rintro _ w2 ⟨rfl, b2⟩
    have B := B0.below b2 B0.lt
    have HB := below_then HB0 HB0.size b2
    clear B0 HB0 b2 CK
    have u1 := B.cell_ 1 L1
    have u2 := B.cell_ 2 L2
    go_wp2_with fail
    refine (K.out _).mono ?_
    rintro _ w3 ⟨rfl, rfl⟩
    have u22 := B.cell_ 22 L22
    clear K u1 u2 L1 L2 L22
    go_wp2_with fail
    refine (PT.out _ HB).mono ?_
    rintro _ w3 ⟨rfl, hT3, hB3⟩
    go_wp2_with fail
    go_ret2
    exact ⟨rfl, hT3, (Keep.old HB hlo).trans hB3⟩
theorem rrC_ip {vn vt vm : Value} {r : RR} (h : r.wf) (j : Nat) (hj : j < r.ad.ip.length) : (rrC vn vt vm r)[5 + j]? = some (.int .u8 (r.ad.ip[j].toNat : Int)) := by
  have h16 := h.1
  have e : ((rrC vn vt vm r).drop 4).take 18 = r.ad.cells := rrC_ad h
  have e1 : (((rrC vn vt vm r).drop 4).take 18)[1 + j]? = (rrC vn vt vm r)[5 + j]? := by
    rw [List.getElem?_take_of_lt (by omega), List.getElem?_drop]; congr 1; omega
  rw [← e1, e, Adr.cells, Nat.add_comm 1 j, List.getElem?_cons_succ, List.getElem?_append_left (by rw [octs_length]; exact hj), octs_get _ _ hj]
/-- Octets in a block, as a text. -/
theorem conv_at {w : World} {g o : Nat} {t : TypeId} {L : List Value} (h : Blk w g t L) (q : List UInt8) (cap : Nat) (hq : ∀ j (hj : j < q.length), L[o + j]? = some (.int .u8 (q[j].toNat : Int))) :
    (convert 94 9 (.slice (some ⟨g, o, none⟩) q.length cap)).run Try.prog w = .ok (.string (bs q)) w :=
  run_convert_bytes_back w 94 9 5 ⟨g, o, none⟩ cap q Try.underlying94 Try.underlying5 Try.underlying9 fun j hj => by
    have h1 := h.cell_ (o + j) (hq j hj)
    cases j with
    | zero => exact h1
    | succ j => exact h1
set_option maxHeartbeats 1000000 in
theorem rput_addr (cs : List Value) (r : RR) (at_ : Int) (p : Option Addr) (w : World) (h : RRis w cs r) (hc : checkR r = 0) (hk : kindR r.ty r.cl = 1 ∨ kindR r.ty r.cl = 28) :
    Calls Try.prog 51 #[.agg cs.toArray, .int .i64 at_, .pointer p] w (RetB (.tuple #[.string (bs (if kindR r.ty r.cl = 1 then r.ad.ip.take 4 else r.ad.ip)), .int .i64 0]) w) := by
  have CK := Lib.hid (fun w' (b : Below w.heap.size w w') => rcheck_any cs r w' (h.below b))
  have hl : cs.length = 33 := by obtain ⟨_, _, _, _, _, _, rfl, hr, _⟩ := h; exact rrC_len hr
  have L1 : cs[1]? = some (.int .i64 r.ty) := by obtain ⟨_, _, _, _, _, _, rfl, hr, _⟩ := h; rfl
  have L2 : cs[2]? = some (.int .i64 r.cl) := by obtain ⟨_, _, _, _, _, _, rfl, hr, _⟩ := h; rfl
  have h16 : r.ad.ip.length = 16 := by obtain ⟨_, _, _, _, _, _, rfl, hr, _⟩ := h; exact hr.1
  have LI : Hid (∀ j (hj : j < r.ad.ip.length), cs[5 + j]? = some (.int .u8 (r.ad.ip[j].toNat : Int))) := Lib.hid (by obtain ⟨_, _, _, _, _, _, rfl, hr, _⟩ := h; exact fun j hj => rrC_ip hr j hj)
  have K := Lib.hid (fun w => kindOf_any r.ty r.cl w)
  rw [hc] at CK
  clear h hc
  generalize kindR r.ty r.cl = k at *
  generalize r.ad.ip = ip at *
  generalize r.ty = ty at *
  generalize r.cl = cl at *
  rcases hk with rfl | rfl
  · rw [if_pos rfl]
    have h4 : (ip.take 4).length = 4 := by simp [h16]
    have B0 := Blk.new w 86 cs
    have HB0 : Below w.heap.size w (w.alloc (.cells cs.toArray 86)) := (Below.refl _ _).alloc (Nat.le_refl _) _
    go_enter Try.func51, Try.ntmps51
    go_wp2_with (refine at_op (.load 86 (.tmp 3)) rfl ?_; go_must (refine wpList_ldB rfl 86 (.tmp 3) rfl w.heap.size 0 rfl B0 33 (by omega) _ Try.underlying86 rfl rrInfo cs (by rw [List.drop_zero, List.take_of_length_le (by omega)]) ?_))
    go_wp2_with fail
    refine (CK.out _ HB0).mono ?_
    rintro _ w2 ⟨rfl, b2⟩
    have B := B0.below b2 B0.lt
    have HB := below_then HB0 HB0.size b2
    clear B0 HB0 b2 CK
    have u1 := B.cell_ 1 L1
    have u2 := B.cell_ 2 L2
    go_wp2_with fail
    refine (K.out _).mono ?_
    rintro _ w3 ⟨rfl, rfl⟩
    have CV := conv_at (o := 5) B (ip.take 4) 16 (fun j hj => by rw [LI.out j (by omega)]; simp)
    rw [h4] at CV
    generalize ip.take 4 = q at *
    clear K u1 u2 L1 L2 LI h16
    go_wp2_with fail
    go_ret2
    exact RetB.mk rfl HB
  · rw [if_neg (by decide)]
    have B0 := Blk.new w 86 cs
    have HB0 : Below w.heap.size w (w.alloc (.cells cs.toArray 86)) := (Below.refl _ _).alloc (Nat.le_refl _) _
    go_enter Try.func51, Try.ntmps51
    go_wp2_with (refine at_op (.load 86 (.tmp 3)) rfl ?_; go_must (refine wpList_ldB rfl 86 (.tmp 3) rfl w.heap.size 0 rfl B0 33 (by omega) _ Try.underlying86 rfl rrInfo cs (by rw [List.drop_zero, List.take_of_length_le (by omega)]) ?_))
    go_wp2_with fail
    refine (CK.out _ HB0).mono ?_
    rintro _ w2 ⟨rfl, b2⟩
    have B := B0.below b2 B0.lt
    have HB := below_then HB0 HB0.size b2
    clear B0 HB0 b2 CK
    have u1 := B.cell_ 1 L1
    have u2 := B.cell_ 2 L2
    go_wp2_with fail
    refine (K.out _).mono ?_
    rintro _ w3 ⟨rfl, rfl⟩
    have CV := conv_at (o := 5) B ip 16 (fun j hj => LI.out j hj)
    rw [h16] at CV
    clear K u1 u2 L1 L2 LI
    go_wp2_with fail
    go_ret2
    exact RetB.mk rfl HB
end Go.Proofs.Ytlmgdogblbigpaa
/-
  Layer 13 (rdata): Put, of an SRV.
-/
namespace Go.Proofs.Ytlmgdogblbigpaa
open Go.RowKit
set_option maxRecDepth 100000
set_option linter.unusedVariables false
set_option linter.unusedSimpArgs false

theorem put2_any (n : Int) (w : World) : Calls Try.prog 63 #[.int .i64 2, .int .i64 n] w (RetB (.string (bs (putB 2 n))) w) := put_any 2 n w
theorem put4_any (n : Int) (w : World) : Calls Try.prog 63 #[.int .i64 4, .int .i64 n] w (RetB (.string (bs (putB 4 n))) w) := put_any 4 n w
set_option maxHeartbeats 2000000 in
theorem rput_srv (cs : List Value) (r : RR) (at_ : Int) (p : Option Addr) (w : World) (h : RRis w cs r) (hc : checkR r = 0) (hk : kindR r.ty r.cl = 33) :
    Calls Try.prog 51 #[.agg cs.toArray, .int .i64 at_, .pointer p] w (RetB (.tuple #[.string (bs (putB 2 r.pri ++ putB 2 r.we ++ putB 2 r.po ++ putZ r.tg)), .int .i64 (checkN r.tg)]) w) := by
  have CK := Lib.hid (fun w' (b : Below w.heap.size w w') => rcheck_any cs r w' (h.below b))
  have hl : cs.length = 33 := by obtain ⟨_, _, _, _, _, _, rfl, hr, _⟩ := h; exact rrC_len hr
  have L1 : cs[1]? = some (.int .i64 r.ty) := by obtain ⟨_, _, _, _, _, _, rfl, hr, _⟩ := h; rfl
  have L2 : cs[2]? = some (.int .i64 r.cl) := by obtain ⟨_, _, _, _, _, _, rfl, hr, _⟩ := h; rfl
  obtain ⟨At, ct, L22, hR⟩ : ∃ At ct, cs[22]? = some (.slice At r.tg.length ct) ∧ NmR w At ct r.tg := by
    obtain ⟨_, _, At, ct, _, _, rfl, hr, _, hR, _⟩ := h; exact ⟨At, ct, rrC_22 hr, hR⟩
  have L24 : cs[24]? = some (.int .i64 r.pri) := by obtain ⟨_, _, _, _, _, _, rfl, hr, _⟩ := h; exact rrC_24 hr
  have L25 : cs[25]? = some (.int .i64 r.we) := by obtain ⟨_, _, _, _, _, _, rfl, hr, _⟩ := h; exact rrC_25 hr
  have L26 : cs[26]? = some (.int .i64 r.po) := by obtain ⟨_, _, _, _, _, _, rfl, hr, _⟩ := h; exact rrC_26 hr
  have K := Lib.hid (fun w => kindOf_any r.ty r.cl w)
  have hz : (putZ r.tg).length ≤ 255 := by
    unfold putZ encZ
    split
    · next h0 => have := (checkN_ok h0).2; simp [encN_length]; omega
    · simp
  rw [hc] at CK
  rw [hk] at K
  clear h hc hk
  have PT := Lib.hid (fun w' (b : Below w.heap.size w w') => putNil_any At ct r.tg at_ w' (hR.below b))
  generalize putZ r.tg = z at *
  generalize checkN r.tg = e at *
  generalize r.tg.length = n at *
  generalize r.ty = ty at *
  generalize r.cl = cl at *
  clear hR
  have P1 := Lib.hid (fun w => put2_any r.pri w)
  have P2 := Lib.hid (fun w => put2_any r.we w)
  have P3 := Lib.hid (fun w => put2_any r.po w)
  have l1 := putB_length 2 r.pri
  have l2 := putB_length 2 r.we
  have l3 := putB_length 2 r.po
  generalize putB 2 r.pri = s1 at *
  generalize putB 2 r.we = s2 at *
  generalize putB 2 r.po = s3 at *
  generalize r.pri = pri at *
  generalize r.we = we at *
  generalize r.po = po at *
  have B0 := Blk.new w 86 cs
  have HB0 : Below w.heap.size w (w.alloc (.cells cs.toArray 86)) := (Below.refl _ _).alloc (Nat.le_refl _) _
  go_enter Try.func51, Try.ntmps51
  go_wp2_with (refine at_op (.load 86 (.tmp 3)) rfl ?_; go_must (refine wpList_ldB rfl 86 (.tmp 3) rfl w.heap.size 0 rfl B0 33 (by omega) _ Try.underlying86 rfl rrInfo cs (by rw [List.drop_zero, List.take_of_length_le (by omega)]) ?_))
  go_wp2_with fail
  refine (CK.out _ HB0).mono ?_
  rintro _ w2 ⟨rfl, b2⟩
  have B := B0.below b2 B0.lt
  have HB := below_then HB0 HB0.size b2
  clear B0 HB0 b2 CK
  have u1 := B.cell_ 1 L1
  have u2 := B.cell_ 2 L2
  go_wp2_with fail
  refine (K.out _).mono ?_
  rintro _ w3 ⟨rfl, rfl⟩
  have u22 := B.cell_ 22 L22
  clear K u1 u2 L1 L2 L22
  go_wp2_with fail
  refine (PT.out _ HB).mono ?_
  rintro _ w3 ⟨rfl, hB3⟩
  have B3 := B.below hB3 B.lt
  have HB3 := below_then HB HB.size hB3
  clear B HB hB3 PT
  go_wp2_with fail
  refine wp_region_old (by kernel_rfl) (by kernel_rfl) ?_
  (refine wpQuiet_val (v := (.pointer (some ⟨w.heap.size, 24, none⟩))) rfl (fun W hW => by first | (go_simp; done) | (go_simp; omega)) ?_; simp only [Act.put, List.setIfInBounds_toArray, List.set_cons_zero, List.set_cons_succ])
  refine wpQuiet_ld 3 (.tmp 54) rfl ⟨w.heap.size, 24, none⟩ rfl rfl (fun W hW => run_load1 Try.underlying3 rfl ((B3.below hW B3.lt).cell_ 24 L24)) ?_
  simp only [Act.put, List.setIfInBounds_toArray, List.set_cons_zero, List.set_cons_succ]
  refine wpQuiet_call 63 #[.int .i64 2, .int .i64 pri] rfl (fun W => by go_simp) (fun W hW => RetB.old hW (P1.out W)) ?_
  simp only [Act.put, List.setIfInBounds_toArray, List.set_cons_zero, List.set_cons_succ]
  (refine wpQuiet_val (v := (.pointer (some ⟨w.heap.size, 25, none⟩))) rfl (fun W hW => by first | (go_simp; done) | (go_simp; omega)) ?_; simp only [Act.put, List.setIfInBounds_toArray, List.set_cons_zero, List.set_cons_succ])
  refine wpQuiet_ld 3 (.tmp 57) rfl ⟨w.heap.size, 25, none⟩ rfl rfl (fun W hW => run_load1 Try.underlying3 rfl ((B3.below hW B3.lt).cell_ 25 L25)) ?_
  simp only [Act.put, List.setIfInBounds_toArray, List.set_cons_zero, List.set_cons_succ]
  refine wpQuiet_call 63 #[.int .i64 2, .int .i64 we] rfl (fun W => by go_simp) (fun W hW => RetB.old hW (P2.out W)) ?_
  simp only [Act.put, List.setIfInBounds_toArray, List.set_cons_zero, List.set_cons_succ]
  (refine wpQuiet_val (v := (.string (bs (s1 ++ s2)))) rfl (fun W hW => by first | (go_simp; done) | (go_simp; omega)) ?_; simp only [Act.put, List.setIfInBounds_toArray, List.set_cons_zero, List.set_cons_succ])
  (refine wpQuiet_val (v := (.pointer (some ⟨w.heap.size, 26, none⟩))) rfl (fun W hW => by first | (go_simp; done) | (go_simp; omega)) ?_; simp only [Act.put, List.setIfInBounds_toArray, List.set_cons_zero, List.set_cons_succ])
  refine wpQuiet_ld 3 (.tmp 61) rfl ⟨w.heap.size, 26, none⟩ rfl rfl (fun W hW => run_load1 Try.underlying3 rfl ((B3.below hW B3.lt).cell_ 26 L26)) ?_
  simp only [Act.put, List.setIfInBounds_toArray, List.set_cons_zero, List.set_cons_succ]
  refine wpQuiet_call 63 #[.int .i64 2, .int .i64 po] rfl (fun W => by go_simp) (fun W hW => RetB.old hW (P3.out W)) ?_
  simp only [Act.put, List.setIfInBounds_toArray, List.set_cons_zero, List.set_cons_succ]
  (refine wpQuiet_val (v := (.string (bs (s1 ++ s2 ++ s3)))) rfl (fun W hW => by first | (go_simp; done) | (go_simp; omega)) ?_; simp only [Act.put, List.setIfInBounds_toArray, List.set_cons_zero, List.set_cons_succ])
  (refine wpQuiet_val (v := (.string (bs z))) rfl (fun W hW => by first | (go_simp; done) | (go_simp; omega)) ?_; simp only [Act.put, List.setIfInBounds_toArray, List.set_cons_zero, List.set_cons_succ])
  (refine wpQuiet_val (v := (.string (bs (s1 ++ s2 ++ s3 ++ z)))) rfl (fun W hW => by first | (go_simp; done) | (go_simp; omega)) ?_; simp only [Act.put, List.setIfInBounds_toArray, List.set_cons_zero, List.set_cons_succ])
  (refine wpQuiet_val (v := (.int .i64 e)) rfl (fun W hW => by first | (go_simp; done) | (go_simp; omega)) ?_; simp only [Act.put, List.setIfInBounds_toArray, List.set_cons_zero, List.set_cons_succ])
  (refine wpQuiet_val (v := (.string (bs (s1 ++ s2 ++ s3 ++ z)))) rfl (fun W hW => by first | (go_simp; done) | (go_simp; omega)) ?_; simp only [Act.put, List.setIfInBounds_toArray, List.set_cons_zero, List.set_cons_succ])
  (refine wpQuiet_val (v := (.int .i64 e)) rfl (fun W hW => by first | (go_simp; done) | (go_simp; omega)) ?_; simp only [Act.put, List.setIfInBounds_toArray, List.set_cons_zero, List.set_cons_succ])
  refine wpQuiet_nil ?_
  intro w4 hB4
  have HB4 := below_then HB3 HB3.size hB4
  clear B3 HB3 hB4
  go_wp2_with fail
  go_ret2
  exact RetB.mk rfl HB4
end Go.Proofs.Ytlmgdogblbigpaa
/-
  Layer 13 (rdata): Put, of an SOA; of any record.
-/
namespace Go.Proofs.Ytlmgdogblbigpaa
open Go.RowKit
set_option maxRecDepth 100000
set_option linter.unusedVariables false
set_option linter.unusedSimpArgs false

theorem pgo_len (T : Tab) (at_ : Int) : ∀ (n : List (List UInt8)) (pre : List UInt8), (pgo T at_ pre n).1.length ≤ pre.length + lsum n + 2
  | [], pre => by simp [pgo, lsum]
  | l :: n, pre => by
    cases h : look T (l :: n) with
    | some q => rw [pgo_some h]; simp [putB_length]
    | none =>
      rw [pgo_no h]
      have ih := pgo_len T at_ n (pre ++ encL l)
      rw [List.length_append, encL_length] at ih
      simp only [lsum]
      omega
theorem putSO_len (T : Option Tab) (at_ : Int) (n : List (List UInt8)) : (putSO T at_ n).length ≤ 300 := by
  cases T with
  | none =>
    unfold putSO putZ encZ
    dsimp only
    split
    · next h => have := (checkN_ok h).2; simp [encN_length]; omega
    · simp
  | some T =>
    unfold putSO putS
    dsimp only
    split
    · next h => have := (checkN_ok h).2; have := pgo_len T at_ n []; simp at this; omega
    · simp
set_option maxHeartbeats 2000000 in
theorem putSOA_any (lo : Nat) (cs : List Value) (r : RR) (at_ : Int) (p : Option Addr) (T : Option Tab) (w0 w : World) (h : RRis w0 cs r) (h0 : w0.heap.size ≤ lo) (hb0 : Below w0.heap.size w0 w) (hlo : lo ≤ w.heap.size) (hT : TabO lo w p T) (hf : fewO T 800000) (ha0 : 0 ≤ at_) (ha1 : at_ ≤ 9000000) (ht : checkN r.tg = 0) (hm : checkN r.ml = 0) :
    Calls Try.prog 92 #[.agg cs.toArray, .int .i64 at_, .pointer p] w (PutO lo p (putSO T at_ r.tg ++ putSO (putTO T at_ r.tg) (at_ + (putSO T at_ r.tg).length) r.ml ++ r.nums.flatMap (putB 4)) 0 (putTO (putTO T at_ r.tg) (at_ + (putSO T at_ r.tg).length) r.ml) w) := by
  obtain ⟨An, cn, At, ct, Am, cm, hcs, hr, hN, hTg, hMl, hraw⟩ := h
  have hl : cs.length = 33 := by rw [hcs]; exact rrC_len hr
  have L22 : cs[22]? = some (.slice At r.tg.length ct) := by rw [hcs]; exact rrC_22 hr
  have L23 : cs[23]? = some (.slice Am r.ml.length cm) := by rw [hcs]; exact rrC_23 hr
  have LN : Hid ((cs.drop 27).take 5 = ints64 r.nums) := Lib.hid (by rw [hcs]; exact rrC_nums hr)
  have hn5 := hr.2
  clear hcs hN hraw hr
  have s1l := putSO_len T at_ r.tg
  have s2l := putSO_len (putTO T at_ r.tg) (at_ + (putSO T at_ r.tg).length) r.ml
  have P1 := Lib.hid (fun w' (b : Below w.heap.size w w') => putO_any lo p T At ct r.tg at_ w' (Nat.le_trans hlo b.size) (hT.below b) ((hTg.below hb0).below b) (fun T' h => Nat.le_trans (hf T' h) (by omega)))
  have P2 := Lib.hid (fun w' (b : Below lo w w') (hlo' : lo ≤ w'.heap.size) (hT' : TabO lo w' p (putTO T at_ r.tg)) => putO_any lo p (putTO T at_ r.tg) Am cm r.ml (at_ + (putSO T at_ r.tg).length) w' hlo' hT' (hMl.below (hb0.trans (b.mono h0))) (fun T' h => Nat.le_trans ((hf.put at_ r.tg) T' h) (by omega)))
  rw [ht] at P1
  rw [hm] at P2
  have hB0 : Below w.heap.size w (w.alloc (.cells cs.toArray 86)) := (Below.refl _ _).alloc (Nat.le_refl _) _
  have hb := Blk.new w 86 cs
  have u22 := hb.cell_ 22 L22
  clear hT hf hTg hMl L22 ht hm hb0
  generalize putTO (putTO T at_ r.tg) (at_ + (putSO T at_ r.tg).length) r.ml = T2 at *
  generalize putSO (putTO T at_ r.tg) (at_ + (putSO T at_ r.tg).length) r.ml = s2 at *
  generalize putSO T at_ r.tg = s1 at *
  generalize putTO T at_ r.tg = T1 at *
  generalize r.tg.length = ntg at *
  generalize r.ml.length = nml at *
  generalize r.nums = nums at *
  obtain ⟨out, hout⟩ : ∃ out, out = s1 ++ s2 ++ nums.flatMap (putB 4) := ⟨_, rfl⟩
  rw [← hout]
  have HO := Lib.hid hout
  clear hout
  go_enter Try.func92, Try.ntmps92
  go_wp2_with fail
  refine (P1.out _ hB0).mono ?_
  rintro _ w2 ⟨rfl, hT2, hB2⟩
  have B2 := hB2.blk hb
  have HB2 : Keep lo w w2 := (Keep.old hB0 hlo).trans hB2
  have hlo2 : lo ≤ w2.heap.size := Nat.le_trans hlo HB2.1.size
  have u23 := B2.cell_ 23 L23
  clear P1 u22 hB2 hb hB0 L23
  go_wp2_with fail
  refine (P2.out _ HB2.1 hlo2 hT2).mono ?_
  rintro _ w3 ⟨rfl, hT3, hB3⟩
  have B3 := hB3.blk B2
  have HB3 : Keep lo w w3 := HB2.trans hB3
  have hlo3 : lo ≤ w3.heap.size := Nat.le_trans hlo HB3.1.size
  clear P2 u23 hB3 hT2 B2 HB2 hlo2
  obtain ⟨n0, n1, n2, n3, n4, rfl⟩ : ∃ n0 n1 n2 n3 n4, nums = [n0, n1, n2, n3, n4] := by
    match nums, hn5 with
    | [a, b, c, d, e], _ => exact ⟨a, b, c, d, e, rfl⟩
  clear hn5
  have HLN := LN.out
  clear LN
  have l0 := putB_length 4 n0
  have l1 := putB_length 4 n1
  have l2 := putB_length 4 n2
  have l3 := putB_length 4 n3
  have l4 := putB_length 4 n4
  have Q0 := Lib.hid (fun w => put4_any n0 w)
  have Q1 := Lib.hid (fun w => put4_any n1 w)
  have Q2 := Lib.hid (fun w => put4_any n2 w)
  have Q3 := Lib.hid (fun w => put4_any n3 w)
  have Q4 := Lib.hid (fun w => put4_any n4 w)
  have HO : Hid (out = s1 ++ s2 ++ (putB 4 n0 ++ (putB 4 n1 ++ (putB 4 n2 ++ (putB 4 n3 ++ putB 4 n4))))) := Lib.hid (by rw [HO.out]; simp)
  generalize putB 4 n0 = q0 at *
  generalize putB 4 n1 = q1 at *
  generalize putB 4 n2 = q2 at *
  generalize putB 4 n3 = q3 at *
  generalize putB 4 n4 = q4 at *
  have HL := Lib.hid HLN
  clear HLN
  go_wp2_with (refine at_op (.load 84 (.tmp 42)) rfl ?_; go_must (refine wpList_ldB rfl 84 (.tmp 42) rfl w.heap.size 27 rfl B3 5 (by omega) _ Try.underlying84 rfl numsInfo [.int .i64 n0, .int .i64 n1, .int .i64 n2, .int .i64 n3, .int .i64 n4] HL.out ?_))
  clear HL B3
  have I0 : ∀ w : World, (Instr.index 84 (.agg #[.int .i64 n0, .int .i64 n1, .int .i64 n2, .int .i64 n3, .int .i64 n4]) (.int .i64 0)).run Try.prog w = .ok (.int .i64 n0) w := fun _ => by kernel_rfl
  have I1 : ∀ w : World, (Instr.index 84 (.agg #[.int .i64 n0, .int .i64 n1, .int .i64 n2, .int .i64 n3, .int .i64 n4]) (.int .i64 1)).run Try.prog w = .ok (.int .i64 n1) w := fun _ => by kernel_rfl
  have I2 : ∀ w : World, (Instr.index 84 (.agg #[.int .i64 n0, .int .i64 n1, .int .i64 n2, .int .i64 n3, .int .i64 n4]) (.int .i64 2)).run Try.prog w = .ok (.int .i64 n2) w := fun _ => by kernel_rfl
  have I3 : ∀ w : World, (Instr.index 84 (.agg #[.int .i64 n0, .int .i64 n1, .int .i64 n2, .int .i64 n3, .int .i64 n4]) (.int .i64 3)).run Try.prog w = .ok (.int .i64 n3) w := fun _ => by kernel_rfl
  have I4 : ∀ w : World, (Instr.index 84 (.agg #[.int .i64 n0, .int .i64 n1, .int .i64 n2, .int .i64 n3, .int .i64 n4]) (.int .i64 4)).run Try.prog w = .ok (.int .i64 n4) w := fun _ => by kernel_rfl
  refine wp_loop_rounds 6 ?_
  rw [rounds_succ]
  go_wp2_with fail
  refine (Q0.out _).mono ?_
  rintro _ w4 ⟨rfl, b4⟩
  have HB4 : Keep lo w w4 := HB3.trans (Keep.old b4 hlo3)
  have hT4 := hT3.below b4
  have hlo4 : lo ≤ w4.heap.size := Nat.le_trans hlo HB4.1.size
  clear Q0 I0 HB3 hT3 b4 hlo3
  go_wp2_with fail
  rw [rounds_succ]
  go_wp2_with fail
  refine (Q1.out _).mono ?_
  rintro _ w5 ⟨rfl, b5⟩
  have HB5 : Keep lo w w5 := HB4.trans (Keep.old b5 hlo4)
  have hT5 := hT4.below b5
  have hlo5 : lo ≤ w5.heap.size := Nat.le_trans hlo HB5.1.size
  clear Q1 I1 HB4 hT4 b5 hlo4
  go_wp2_with fail
  rw [rounds_succ]
  go_wp2_with fail
  refine (Q2.out _).mono ?_
  rintro _ w6 ⟨rfl, b6⟩
  have HB6 : Keep lo w w6 := HB5.trans (Keep.old b6 hlo5)
  have hT6 := hT5.below b6
  have hlo6 : lo ≤ w6.heap.size := Nat.le_trans hlo HB6.1.size
  clear Q2 I2 HB5 hT5 b6 hlo5
  go_wp2_with fail
  rw [rounds_succ]
  go_wp2_with fail
  refine (Q3.out _).mono ?_
  rintro _ w7 ⟨rfl, b7⟩
  have HB7 : Keep lo w w7 := HB6.trans (Keep.old b7 hlo6)
  have hT7 := hT6.below b7
  have hlo7 : lo ≤ w7.heap.size := Nat.le_trans hlo HB7.1.size
  clear Q3 I3 HB6 hT6 b7 hlo6
  go_wp2_with fail
  rw [rounds_succ]
  go_wp2_with fail
  refine (Q4.out _).mono ?_
  rintro _ w8 ⟨rfl, b8⟩
  have HB8 : Keep lo w w8 := HB7.trans (Keep.old b8 hlo7)
  have hT8 := hT7.below b8
  have hlo8 : lo ≤ w8.heap.size := Nat.le_trans hlo HB8.1.size
  clear Q4 I4 HB7 hT7 b8 hlo7
  go_wp2_with fail
  rw [rounds_succ]
  go_wp2_with fail
  go_ret2
  exact ⟨ret_str2 (by rw [HO.out]; simp), hT8, HB8⟩
set_option maxHeartbeats 1000000 in
theorem rput_soa (lo : Nat) (cs : List Value) (r : RR) (at_ : Int) (p : Option Addr) (T : Option Tab) (w0 w : World) (h : RRis w0 cs r) (h0 : w0.heap.size ≤ lo) (hb0 : Below w0.heap.size w0 w) (hlo : lo ≤ w.heap.size) (hT : TabO lo w p T) (hf : fewO T 800000) (ha0 : 0 ≤ at_) (ha1 : at_ ≤ 9000000) (hc : checkR r = 0) (hk : kindR r.ty r.cl = 6) :
    Calls Try.prog 51 #[.agg cs.toArray, .int .i64 at_, .pointer p] w (PutO lo p (putSO T at_ r.tg ++ putSO (putTO T at_ r.tg) (at_ + (putSO T at_ r.tg).length) r.ml ++ r.nums.flatMap (putB 4)) 0 (putTO (putTO T at_ r.tg) (at_ + (putSO T at_ r.tg).length) r.ml) w) := by
  have hE := (hasE_ok hc).2
  have hE6 : hasE r = (if checkN r.tg ≠ 0 then checkN r.tg else if checkN r.ml ≠ 0 then checkN r.ml else if r.nums.all (inB 4294967295) then 0 else 4) := by unfold hasE; rw [hk]; rfl
  rw [hE6] at hE
  have ht : checkN r.tg = 0 := by
    by_cases h1 : checkN r.tg = 0
    · exact h1
    · rw [if_pos h1] at hE; exact hE
  have hm : checkN r.ml = 0 := by
    rw [if_neg (by simp [ht])] at hE
    by_cases h1 : checkN r.ml = 0
    · exact h1
    · rw [if_pos h1] at hE; exact hE
  have hw := h.below hb0
  have CK := Lib.hid (fun w' (b : Below w.heap.size w w') => rcheck_any cs r w' (hw.below b))
  have hl : cs.length = 33 := by obtain ⟨_, _, _, _, _, _, rfl, hr, _⟩ := h; exact rrC_len hr
  have L1 : cs[1]? = some (.int .i64 r.ty) := by obtain ⟨_, _, _, _, _, _, rfl, hr, _⟩ := h; rfl
  have L2 : cs[2]? = some (.int .i64 r.cl) := by obtain ⟨_, _, _, _, _, _, rfl, hr, _⟩ := h; rfl
  have K := Lib.hid (fun w => kindOf_any r.ty r.cl w)
  rw [hc] at CK
  rw [hk] at K
  have PT := Lib.hid (fun w' (b : Below w.heap.size w w') => putSOA_any lo cs r at_ p T w0 w' h h0 (below_then hb0 hb0.size b) (Nat.le_trans hlo b.size) (hT.below b) hf ha0 ha1 ht hm)
  clear h hc hk hE hE6 hT hf ht hm hw hb0
  generalize putSO T at_ r.tg ++ putSO (putTO T at_ r.tg) (at_ + (putSO T at_ r.tg).length) r.ml ++ r.nums.flatMap (putB 4) = out at *
  generalize putTO (putTO T at_ r.tg) (at_ + (putSO T at_ r.tg).length) r.ml = T2 at *
  generalize r.ty = ty at *
  generalize r.cl = cl at *
  have B0 := Blk.new w 86 cs
  have HB0 : Below w.heap.size w (w.alloc (.cells cs.toArray 86)) := (Below.refl _ _).alloc (Nat.le_refl _) _
  go_enter Try.func51, Try.ntmps51
  go_wp2_with (refine at_op (.load 86 (.tmp 3)) rfl ?_; go_must (refine wpList_ldB rfl 86 (.tmp 3) rfl w.heap.size 0 rfl B0 33 (by omega) _ Try.underlying86 rfl rrInfo cs (by rw [List.drop_zero, List.take_of_length_le (by omega)]) ?_))
  go_wp2_with fail
  refine (CK.out _ HB0).mono ?_
  rintro _ w2 ⟨rfl, b2⟩
  have B := B0.below b2 B0.lt
  have HB := below_then HB0 HB0.size b2
  clear B0 HB0 b2 CK
  have u1 := B.cell_ 1 L1
  have u2 := B.cell_ 2 L2
  go_wp2_with fail
  refine (K.out _).mono ?_
  rintro _ w3 ⟨rfl, rfl⟩
  clear K u1 u2 L1 L2
  go_wp2_with (refine at_op (.load 86 (.tmp 3)) rfl ?_; go_must (refine wpList_ldB rfl 86 (.tmp 3) rfl w.heap.size 0 rfl B 33 (by omega) _ Try.underlying86 rfl rrInfo cs (by rw [List.drop_zero, List.take_of_length_le (by omega)]) ?_))
  go_wp2_with fail
  refine (PT.out _ HB).mono ?_
  rintro _ w4 ⟨rfl, hT4, hB4⟩
  clear PT
  go_wp2_with fail
  go_ret2
  exact ⟨rfl, hT4, (Keep.old HB hlo).trans hB4⟩
/-- What Put tells of any record. -/
def rputS (T : Option Tab) (at_ : Int) (r : RR) : List UInt8 := if checkR r = 0 then dataR T at_ r else []
def rputT (T : Option Tab) (at_ : Int) (r : RR) : Option Tab := if checkR r = 0 then tabR T at_ r else T
theorem rput_any (lo : Nat) (cs : List Value) (r : RR) (at_ : Int) (p : Option Addr) (T : Option Tab) (w0 w : World) (h : RRis w0 cs r) (h0 : w0.heap.size ≤ lo) (hb0 : Below w0.heap.size w0 w) (hlo : lo ≤ w.heap.size) (hT : TabO lo w p T) (hf : fewO T 800000) (ha0 : 0 ≤ at_) (ha1 : at_ ≤ 9000000) :
    Calls Try.prog 51 #[.agg cs.toArray, .int .i64 at_, .pointer p] w (PutO lo p (rputS T at_ r) (checkR r) (rputT T at_ r) w) := by
  have hw := h.below hb0
  by_cases hc : checkR r = 0
  · unfold rputS rputT
    rw [if_pos hc, if_pos hc, hc]
    have hE := (hasE_ok hc).2
    rcases kindR_cases r.ty r.cl with hk | hk | hk | hk | hk | hk
    · refine (rput_addr cs r at_ p w hw hc (.inl hk)).mono ?_
      rintro _ w' ⟨rfl, hB⟩
      have e1 : dataR T at_ r = (if kindR r.ty r.cl = 1 then r.ad.ip.take 4 else r.ad.ip) := by unfold dataR; rw [hk]; rfl
      have e2 : tabR T at_ r = T := by unfold tabR; rw [hk]; rfl
      rw [e1, e2]
      exact ⟨rfl, hT.below hB, Keep.old hB hlo⟩
    · refine (rput_addr cs r at_ p w hw hc (.inr hk)).mono ?_
      rintro _ w' ⟨rfl, hB⟩
      have e1 : dataR T at_ r = (if kindR r.ty r.cl = 1 then r.ad.ip.take 4 else r.ad.ip) := by unfold dataR; rw [hk]; rfl
      have e2 : tabR T at_ r = T := by unfold tabR; rw [hk]; rfl
      rw [e1, e2]
      exact ⟨rfl, hT.below hB, Keep.old hB hlo⟩
    · have e1 : dataR T at_ r = putSO T at_ r.tg := by unfold dataR; rcases hk with hk | hk <;> rw [hk] <;> rfl
      have e2 : tabR T at_ r = putTO T at_ r.tg := by unfold tabR; rcases hk with hk | hk <;> rw [hk] <;> rfl
      have e3 : checkN r.tg = 0 := by rw [← hE]; unfold hasE; rcases hk with hk | hk <;> rw [hk] <;> rfl
      rw [e1, e2]
      have := rput_name lo cs r at_ p T w hw hlo hT (fun T' h => Nat.le_trans (hf T' h) (by omega)) hc hk
      rwa [e3] at this
    · refine (rput_srv cs r at_ p w hw hc hk).mono ?_
      rintro _ w' ⟨rfl, hB⟩
      have e1 : dataR T at_ r = putB 2 r.pri ++ putB 2 r.we ++ putB 2 r.po ++ putZ r.tg := by unfold dataR; rw [hk]; rfl
      have e2 : tabR T at_ r = T := by unfold tabR; rw [hk]; rfl
      have e3 : checkN r.tg = 0 := by
        have e4 : hasE r = (if [r.pri, r.we, r.po].all (inB 65535) = true then checkN r.tg else 4) := by unfold hasE; rw [hk]; rfl
        rw [e4] at hE
        split at hE
        · exact hE
        · cases hE
      rw [e1, e2, e3]
      exact ⟨rfl, hT.below hB, Keep.old hB hlo⟩
    · have e1 : dataR T at_ r = putSO T at_ r.tg ++ putSO (putTO T at_ r.tg) (at_ + (putSO T at_ r.tg).length) r.ml ++ r.nums.flatMap (putB 4) := by unfold dataR; rw [hk]; rfl
      have e2 : tabR T at_ r = putTO (putTO T at_ r.tg) (at_ + (putSO T at_ r.tg).length) r.ml := by unfold tabR; rw [hk]; rfl
      rw [e1, e2]
      exact rput_soa lo cs r at_ p T w0 w h h0 hb0 hlo hT hf ha0 ha1 hc hk
    · refine (rput_raw cs r at_ p w hw hc hk).mono ?_
      rintro _ w' ⟨rfl, hB⟩
      have e1 : dataR T at_ r = r.raw := by unfold dataR; rw [hk]; rfl
      have e2 : tabR T at_ r = T := by unfold tabR; rw [hk]; rfl
      rw [e1, e2]
      exact ⟨rfl, hT.below hB, Keep.old hB hlo⟩
  · unfold rputS rputT
    rw [if_neg hc, if_neg hc]
    refine (rput_bad cs r at_ p w hw hc).mono ?_
    rintro _ w' ⟨rfl, hB⟩
    exact ⟨rfl, hT.below hB, Keep.old hB hlo⟩
end Go.Proofs.Ytlmgdogblbigpaa
