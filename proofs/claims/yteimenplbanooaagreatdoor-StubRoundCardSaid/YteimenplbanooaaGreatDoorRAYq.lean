/-
  Layer 1: Number, of digits that say a number that may be.
-/
import Derived.Test.YteimenplbanooaaGreatDoorTy6q
namespace Go.Proofs.YteimenplbanooaaGreatDoor
open _root_.Go.Proofs.Tryz
open Go.RowKit
set_option maxRecDepth 100000
set_option linter.unusedVariables false
set_option linter.unusedSimpArgs false
def valD (s : List UInt8) : Nat := s.foldl (fun n c => n * 10 + (c.toNat - 48)) 0
def digs (s : List UInt8) : Prop := ∀ c ∈ s, 48 ≤ c.toNat ∧ c.toNat ≤ 57
theorem valD_next {s : List UInt8} {k : Nat} (h : k < s.length) : valD (s.take (k + 1)) = valD (s.take k) * 10 + (s[k].toNat - 48) := by
 unfold valD
 rw [List.take_succ_eq_append_getElem h, List.foldl_append]
 rfl
theorem valD_mono (s : List UInt8) : ∀ (j k : Nat), k + j = s.length → valD (s.take k) ≤ valD s := by
 intro j
 induction j with
 | zero => intro k h; rw [List.take_of_length_le (by omega)]; exact Nat.le_refl _
 | succ j ih =>
  intro k h
  have h1 := ih (k + 1) (by omega)
  have h2 := valD_next (s := s) (k := k) (by omega)
  omega
set_option maxHeartbeats 2000000 in
theorem numD_any (s : List UInt8) (m : Nat) (hs : 0 < s.length) (hl : s.length ≤ 1000000) (hd : digs s) (hm : m ≤ 9223372036854775807) (hv : valD s ≤ m) (w : World) : Calls prog 82 #[.string (bs s), .int .i64 m] w (Ret (.tuple #[.int .i64 (valD s : Int), .int .i64 0]) w) := by
 have hne : s ≠ [] := List.length_pos_iff.1 hs
 have e1 : (s == []) = false := by simpa using hne
 have e2 : s.isEmpty = false := by simpa using hne
 have HD := Hh (fun k (h : k < s.length) => hd s[k] (List.getElem_mem h))
 have VN := Hh (fun k (h : k < s.length) => valD_next (s := s) (k := k) h)
 have VM := Hh (fun k (h : k ≤ s.length) => Nat.le_trans (valD_mono s (s.length - k) k (by omega)) hv)
 obtain ⟨R, hR⟩ : ∃ R, Hid (valD s = R) := ⟨_, Hh rfl⟩
 rw [hR.out]
 clear hd hne
 go_enter func82, ntmps82
 go_wp2_with fail
 go_loopw [14] (fun iv wr => ∃ k : Nat, k ≤ s.length ∧ iv = .int .i64 k ∧ wr = w) (fun iv _ => s.length - (intOf iv).toNat)
 case atStart => exact ⟨0, Nat.zero_le _, rfl, rfl⟩
 obtain ⟨k, hk, rfl, hwr⟩ := hrel
 subst hwr
 by_cases hlt : k < s.length
 case pos =>
  have hlt' : (k : Int) < s.length := by omega
  obtain ⟨d1, d2⟩ := HD.out k hlt
  have c1 : ¬ (s[k].toNat : Int) < 48 := by omega
  have c2 : ¬ (57 : Int) < s[k].toNat := by omega
  clear HD VN VM d1 d2 hR
  go_wp2_with fail
  go_roundw
  case rel => exact ⟨k + 1, by omega, by go_num, trivial⟩
  case measure => simp [intOf]; omega
 obtain rfl : k = s.length := by omega
 have hlt' : ¬ (s.length : Int) < s.length := by omega
 go_wp2_with fail
 clear hlt hk hlt'
 go_loopw [7, 30] (fun nv iv wx => ∃ k : Nat, k ≤ s.length ∧ iv = .int .i64 k ∧ nv = .int .i64 (valD (s.take k) : Int) ∧ wx = wr) (fun _ iv _ => s.length - (intOf iv).toNat)
 case atStart => exact ⟨0, Nat.zero_le _, rfl, rfl, rfl⟩
 obtain ⟨k, hk, rfl, rfl, hwr⟩ := hrel
 subst hwr
 by_cases hlt : k < s.length
 case pos =>
  have hlt' : (k : Int) < s.length := by omega
  obtain ⟨d1, d2⟩ := HD.out k hlt
  have v1 := VN.out k hlt
  have v2 := VM.out (k + 1) (by omega)
  obtain ⟨c, hc⟩ : ∃ c, Hid (s[k] = c) := ⟨_, Hh rfl⟩
  have hgc : ∀ h, s[k]'h = c := fun _ => hc.out
  rw [hc.out] at d1 d2 v1
  obtain ⟨d, hd⟩ : ∃ d : Nat, c.toNat = 48 + d := ⟨c.toNat - 48, by omega⟩
  rw [hd] at d1 d2 v1
  have hcd : IntKind.u8.wrap ((c.toNat : Int) - 48) = d := by rw [IntKind.wrap_u8]; omega
  have e3 : (c.toNat : Int) - 48 = d := by omega
  generalize hV : valD (s.take (k + 1)) = V at *
  generalize valD (s.take k) = n at *
  have q1 : ¬ (m : Int) < d := by omega
  have q2 : ¬ ((m : Int) - d) / 10 < n := by omega
  have q3 : (10 : Int) * n + d = V := by omega
  have q5 : IntKind.i64.wrap ((10 : Int) * n + d) = V := by rw [q3]; exact IntWalk.i64_in _ (by omega)
  have q6 : IntKind.i64.wrap ((10 : Int) * n) = 10 * n := IntWalk.i64_in _ (by omega)
  clear q3
  have h9 : d ≤ 9 := by omega
  clear HD VN VM hR d1 d2 hd
  go_wp2_with fail
  go_roundw
  case rel => exact ⟨k + 1, by omega, by go_num, by rw [hV]; first | rfl | go_num, trivial⟩
  case measure => simp [intOf]; omega
 obtain rfl : k = s.length := by omega
 have hlt' : ¬ (s.length : Int) < s.length := by omega
 rw [List.take_of_length_le (Nat.le_refl _), hR.out]
 clear HD VN VM hR
 go_wp2_with fail
 go_ret2
 exact ⟨rfl, rfl⟩
theorem ixb_no : ∀ {s : List UInt8} {c : UInt8} (h : c ∉ s), Lib.indexByte s c = -1 := by
 intro s c
 induction s with
 | nil => intro _; rfl
 | cons b s ih =>
  intro h
  have h1 : (b == c) = false := beq_eq_false_iff_ne.2 (fun e => h (by rw [e]; exact List.mem_cons_self ..))
  have h2 := ih (fun e => h (List.mem_cons_of_mem _ e))
  simp [Lib.indexByte, h1, h2]
theorem ixb_yes : ∀ {h t : List UInt8} {c : UInt8} (hh : c ∉ h), Lib.indexByte (h ++ c :: t) c = h.length := by
 intro h t c
 induction h with
 | nil => intro _; simp [Lib.indexByte]
 | cons b s ih =>
  intro hh
  have h1 : (b == c) = false := beq_eq_false_iff_ne.2 (fun e => hh (by rw [e]; exact List.mem_cons_self ..))
  have h2 := ih (fun e => hh (List.mem_cons_of_mem _ e))
  have h3 : ¬ ((s.length : Int) = -1) := by omega
  rw [List.cons_append]
  simp [Lib.indexByte, h1, h2, h3]
theorem cutNo_any (s : List UInt8) (c : UInt8) (h : c ∉ s) (w : World) : Calls prog 186 #[.string (bs s), .int .u8 (c.toNat : Int)] w (Ret (.tuple #[.string (bs s), .string (bs []), .bool false]) w) := by
 have IX := Hh (Tryz.strings_IndexByte (bs s) (c.toNat : Int) w)
 have e : Lib.indexByte (bs s).data.toList (c.toNat : Int).toNat.toUInt8 = -1 := by
  have : (c.toNat : Int).toNat.toUInt8 = c := by simp
  rw [this]
  exact ixb_no h
 rw [e] at IX
 clear e h
 go_enter func186, ntmps186
 go_wp2_with fail
 refine IX.out.mono ?_
 rintro _ _ ⟨rfl, rfl⟩
 go_wp2_with fail
 go_ret3
 exact ⟨rfl, rfl⟩
theorem cutYes_any (h t : List UInt8) (c : UInt8) (hh : c ∉ h) (hl : h.length ≤ 1000000) (w : World) : Calls prog 186 #[.string (bs (h ++ c :: t)), .int .u8 (c.toNat : Int)] w (RetB (.tuple #[.string (bs h), .string (bs t), .bool true]) w) := by
 have IX := Hh (Tryz.strings_IndexByte (bs (h ++ c :: t)) (c.toNat : Int) w)
 have e : Lib.indexByte (bs (h ++ c :: t)).data.toList (c.toNat : Int).toNat.toUInt8 = h.length := by
  have : (c.toNat : Int).toNat.toUInt8 = c := by simp
  rw [this]
  exact ixb_yes hh
 rw [e] at IX
 have ht : (h ++ c :: t).take h.length = h := by simp
 have hd : (h ++ c :: t).drop (h.length + 1) = t := by simp [List.drop_append]
 have hsl : (h.length : Int) ≤ ((h ++ c :: t).length : Int) := by simp; omega
 have hsl2 : (h.length : Int) + 1 ≤ ((h ++ c :: t).length : Int) := by simp; omega
 generalize hS : h ++ c :: t = s at *
 have hn : (h.length : Int) ≤ 1000000 := by omega
 clear e hh hS
 go_enter func186, ntmps186
 go_wp2_with fail
 refine IX.out.mono ?_
 rintro _ w1 ⟨rfl, rfl⟩
 clear IX
 generalize hN : h.length = n at *
 go_wp2_with fail
 refine wp_region_held_drew (S := fun V => Below w1.heap.size w1 V) (by kernel_rfl) (Below.refl _ _).drew (fun hS => ?_)
 refine held_seq hS 10 [0,1,2,3,4,5,6,7,8,9] rfl (by kernel_rfl) (fun _ _ _ _ _ h => h) rfl rfl ?_
 (refine ⟨_, (.string (bs s)), rfl, .inl ⟨rfl, fun V hV => rfl⟩, ?_⟩; simp only [Act.put, lsA, lsB, lsC])
 (refine ⟨_, (.int .i64 n), rfl, .inl ⟨rfl, fun V hV => rfl⟩, ?_⟩; simp only [Act.put, lsA, lsB, lsC])
 (refine ⟨_, (.string (bs h)), rfl, .inl ⟨rfl, fun V hV => (by go_simp)⟩, ?_⟩; simp only [Act.put, lsA, lsB, lsC])
 (refine ⟨_, (.string (bs s)), rfl, .inl ⟨rfl, fun V hV => rfl⟩, ?_⟩; simp only [Act.put, lsA, lsB, lsC])
 (refine ⟨_, (.int .i64 n), rfl, .inl ⟨rfl, fun V hV => rfl⟩, ?_⟩; simp only [Act.put, lsA, lsB, lsC])
 (refine ⟨_, (.int .i64 ((n : Int) + 1)), rfl, .inl ⟨rfl, fun V hV => (by go_simp; exact IntWalk.i64_in _ (by omega))⟩, ?_⟩; simp only [Act.put, lsA, lsB, lsC])
 (refine ⟨_, (.string (bs t)), rfl, .inl ⟨rfl, fun V hV => (by go_simp; intro hneg; exfalso; omega)⟩, ?_⟩; simp only [Act.put, lsA, lsB, lsC])
 (refine ⟨_, (.string (bs h)), rfl, .inl ⟨rfl, fun V hV => rfl⟩, ?_⟩; simp only [Act.put, lsA, lsB, lsC])
 (refine ⟨_, (.string (bs t)), rfl, .inl ⟨rfl, fun V hV => rfl⟩, ?_⟩; simp only [Act.put, lsA, lsB, lsC])
 (refine ⟨_, (.bool true), rfl, .inl ⟨rfl, fun V hV => rfl⟩, ?_⟩; simp only [Act.put, lsA, lsB, lsC])
 simp only [SeqC]
 refine wpAnyH_done (by kernel_rfl) ?_ _
 go_wp2_with fail
 go_ret3
 exact RetB.mk rfl hS
theorem valD_snoc (l : List UInt8) (c : UInt8) : valD (l ++ [c]) = valD l * 10 + (c.toNat - 48) := by
 unfold valD
 rw [List.foldl_append]
 rfl
theorem dec_val (m : Nat) : valD (Lib.decDigits m) = m ∧ digs (Lib.decDigits m) := by
 induction m using Nat.strongRecOn with
 | ind m ih =>
  by_cases h : m < 10
  ·
   rw [Lib.decDigits_one h]
   have hb : (UInt8.ofNat (48 + m)).toNat = 48 + m := by rw [UInt8.toNat_ofNat']; omega
   refine ⟨?_, fun c hc => ?_⟩
   ·
    show 0 * 10 + ((UInt8.ofNat (48 + m)).toNat - 48) = m
    rw [hb]; omega
   ·
    rw [List.mem_singleton] at hc
    rw [hc, hb]; omega
  ·
   have e : Lib.decDigits m = Lib.decDigits (m / 10) ++ [UInt8.ofNat (48 + m % 10)] := by rw [Lib.decDigits, dif_neg h]
   have hb : (UInt8.ofNat (48 + m % 10)).toNat = 48 + m % 10 := by rw [UInt8.toNat_ofNat']; omega
   obtain ⟨i1, i2⟩ := ih (m / 10) (by omega)
   rw [e]
   refine ⟨?_, fun c hc => ?_⟩
   ·
    rw [valD_snoc, i1, hb]; omega
   ·
    rcases List.mem_append.1 hc with hc | hc
    ·
     exact i2 c hc
    ·
     rw [List.mem_singleton] at hc
     rw [hc, hb]; omega
theorem itoa_nat (n : Nat) : Lib.itoa (n : Int) = Lib.decDigits n := by
 unfold Lib.itoa
 rw [if_neg (by omega)]
 rfl
theorem itoa_val (n : Nat) : valD (Lib.itoa (n : Int)) = n ∧ digs (Lib.itoa (n : Int)) := by rw [itoa_nat]; exact dec_val n
theorem itoa_pos (n : Nat) : 0 < (Lib.itoa (n : Int)).length := by
 rw [itoa_nat]
 by_cases h : n < 10
 ·
  rw [Lib.decDigits_one h]; simp
 ·
  rw [Lib.decDigits, dif_neg h]; simp
theorem digs_no {s : List UInt8} (h : digs s) {c : UInt8} (hc : c.toNat < 48 ∨ 57 < c.toNat) : c ∉ s := fun hm => by have := h c hm; omega
def restQ (xs : List Nat) (k : Nat) : List UInt8 := joinC 46 ((xs.drop k).map (fun n : Nat => Lib.itoa (n : Int)))
theorem restQ_next {xs : List Nat} {k : Nat} (h : k + 1 < xs.length) : restQ xs k = Lib.itoa (xs[k] : Int) ++ 46 :: restQ xs (k + 1) := by
 unfold restQ
 rw [List.drop_eq_getElem_cons (by omega), List.drop_eq_getElem_cons (l := xs) (i := k + 1) h]
 simp only [List.map_cons, joinC, List.flatMap_cons, List.cons_append]
theorem restQ_last {xs : List Nat} {k : Nat} (h : k + 1 = xs.length) : restQ xs k = Lib.itoa (xs[k] : Int) := by
 unfold restQ
 rw [List.drop_eq_getElem_cons (by omega), List.drop_of_length_le (by omega)]
 simp [joinC]
def qpC (xs : List Nat) (k : Nat) : List Value := .int .i64 4 :: ((xs.take k).map (fun n : Nat => Value.int .u8 (n : Int)) ++ List.replicate (16 - k) (.int .u8 0) ++ [.int .i64 0])
theorem qpC_len {xs : List Nat} (h : xs.length = 4) {k : Nat} (hk : k ≤ 4) : (qpC xs k).length = 18 := by
 simp [qpC, h]; omega
theorem qpC_next {xs : List Nat} (h : xs.length = 4) {k : Nat} (hk : k < 4) : (qpC xs k).set (1 + k) (.int .u8 ((xs[k]'(by omega) : Nat) : Int)) = qpC xs (k + 1) := by
 match xs, h, k, hk with
 | [a, b, c, d], _, 0, _ => rfl
 | [a, b, c, d], _, 1, _ => rfl
 | [a, b, c, d], _, 2, _ => rfl
 | [a, b, c, d], _, 3, _ => rfl
theorem qpC_4 (a b c d : UInt8) : qpC [a.toNat, b.toNat, c.toNat, d.toNat] 4 = (quadA a b c d).cells := rfl
theorem qpC_one (xs : List Nat) (k : Nat) : ∀ v ∈ qpC xs k, v.oneCell' = true := by
 intro v hv
 simp only [qpC, List.mem_cons, List.mem_append, List.mem_map, List.mem_replicate, List.not_mem_nil, or_false] at hv
 rcases hv with rfl | (⟨_, _, rfl⟩ | ⟨_, rfl⟩) | rfl <;> rfl
set_option maxHeartbeats 4000000 in
theorem quadParse_any (a b c d : UInt8) (w : World) (hT : Tb w) : Calls prog 137 #[.string (bs (quadT a.toNat b.toNat c.toNat d.toNat))] w (RetB (.tuple #[.agg (quadA a b c d).cells.toArray, .int .i64 0]) w) := by
 obtain ⟨xs, hxs⟩ : ∃ xs, Hid ([a.toNat, b.toNat, c.toNat, d.toNat] = xs) := ⟨_, Hh rfl⟩
 have hx4 : xs.length = 4 := by rw [← hxs.out]; rfl
 have hx8 : ∀ k (h : k < xs.length), xs[k] < 256 := by
  rw [← hxs.out]
  intro k h
  have := a.toNat_lt; have := b.toNat_lt; have := c.toNat_lt; have := d.toNat_lt
  match k, h with
  | 0, _ | 1, _ | 2, _ | 3, _ => simp; omega
 have HR0 : Hid (restQ xs 0 = quadT a.toNat b.toNat c.toNat d.toNat) := Hh (by rw [← hxs.out]; simp [restQ, joinC, quadT])
 have QT := Hh (fun V (hV : Below w.heap.size w V) => quadText_any (quadA a b c d) rfl V (hT.below hV))
 have H4 : Hid (qpC xs 4 = (quadA a b c d).cells) := Hh (by rw [← hxs.out]; exact qpC_4 a b c d)
 have HT4 : Hid (quadA4 (quadA a b c d).ip 0 = quadT a.toNat b.toNat c.toNat d.toNat) := Hh rfl
 rw [HT4.out] at QT
 generalize quadT a.toNat b.toNat c.toNat d.toNat = T at *
 generalize (quadA a b c d).cells = qc at *
 have HX8 := Hh hx8
 clear hx8 HT4 hxs
 go_enter func137, ntmps137
 have Z2 := Blk.newA w _ rfl
 have Z4 := Blk.newA (w.alloc (.cells adrZ.toArray 24)) (w.heap.size + 1) (by simp)
 have Z2' := Z2.alloc (.cells adrZ.toArray 24)
 have BB : Below w.heap.size w ((w.alloc (.cells adrZ.toArray 24)).alloc (.cells adrZ.toArray 24)) := ((Below.refl _ _).alloc (Nat.le_refl _) _).alloc (by simp) _
 go_wp2_with (refine at_op (.store 24 (.tmp 4) (.tmp 12)) rfl ?_; go_must (refine wpList_stB rfl _ _ _ rfl (w.heap.size + 1) 0 rfl (qpC [] 0) rfl Z4 (Nat.le_refl 18) adrInfo (qpC_one [] 0) ?_))
 intro w1 B1 g1 sw
 clear sw
 have X4 : Blk w1 (w.heap.size + 1) 24 (qpC xs 0) := blkAll B1 (Nat.le_refl _)
 have X2 : Blk w1 w.heap.size 24 adrZ := Z2'.grown g1 (by simp)
 have S1 : Below w.heap.size w w1 := below_grown BB g1 BB.size (by omega)
 clear B1 g1 Z2 Z4 Z2' BB
 obtain ⟨g, hg⟩ : ∃ g, Hid (w.heap.size + 1 = g) := ⟨_, Hh rfl⟩
 have hgw : w.heap.size < g := by have := hg.out; omega
 rw [hg.out] at X4 ⊢
 clear hg
 have hT0 : T = restQ xs 0 := HR0.out.symm
 go_wp2_with fail
 go_loopw [5, 14] (fun tv iv wr => ∃ (k : Nat) (t : List UInt8), k ≤ 4 ∧ iv = .int .i64 k ∧ tv = .string (bs t) ∧ Hid (k < 4 → t = restQ xs k) ∧ Blk wr g 24 (qpC xs k) ∧ Blk wr w.heap.size 24 adrZ ∧ Below w.heap.size w wr) (fun _ iv _ => 4 - (intOf iv).toNat)
 case atStart => exact ⟨0, _, by omega, rfl, by rw [hT0], Hh (fun _ => rfl), X4, X2, S1⟩
 clear X4 X2 S1 hT0
 obtain ⟨k, t, hk, rfl, rfl, HTR, X4, X2, S⟩ := hrel
 by_cases hlt : k < 4
 case pos =>
  obtain rfl : t = restQ xs k := HTR.out hlt
  have hlt' : (k : Int) < 4 := by omega
  have hx := HX8.out k (by omega)
  obtain ⟨v1, v2⟩ := itoa_val xs[k]
  have v3 := itoa_pos xs[k]
  have v4 := itoa_len (xs[k] : Int) (by omega) (by omega)
  have NM := Hh (fun V => numD_any (Lib.itoa (xs[k] : Int)) 255 v3 (by omega) v2 (by decide) (by omega) V)
  rw [v1] at NM
  have hno := Hh (digs_no v2 (c := 46) (by decide))
  have HN := Hh (qpC_next hx4 hlt)
  have hwr : IntKind.u8.wrap (xs[k] : Int) = xs[k] := by rw [IntKind.wrap_u8]; omega
  have hcl := qpC_len hx4 hk
  have CT : Hid (∀ V, ∃ t2 fd, (k + 1 < 4 → t2 = restQ xs (k + 1)) ∧ Calls prog 186 #[.string (bs (restQ xs k)), .int .u8 46] V (RetB (.tuple #[.string (bs (Lib.itoa (xs[k] : Int))), .string (bs t2), .bool fd]) V)) := Hh (fun V => by
   by_cases hl : k + 1 < 4
   ·
    refine ⟨_, true, fun _ => rfl, ?_⟩
    rw [restQ_next (by omega)]
    exact cutYes_any _ _ 46 hno.out (by omega) V
   ·
    refine ⟨[], false, fun h => absurd h hl, ?_⟩
    rw [restQ_last (by omega)]
    refine (cutNo_any _ 46 hno.out V).mono ?_
    rintro _ _ ⟨rfl, rfl⟩
    exact RetB.mk rfl (Below.refl _ _))
  obtain ⟨t2, fd, ht2, CT2⟩ := CT.out wr
  have HC := Hh CT2
  have HT2 := Hh ht2
  generalize Lib.itoa (xs[k] : Int) = ti at *
  generalize xs[k] = x at *
  clear CT CT2 ht2 v1 v2 v3 v4 hno QT HX8 H4 HR0
  go_wp2_with fail
  refine HC.out.mono ?_
  rintro _ w2 ⟨rfl, b1⟩
  have Y4 := X4.below b1 X4.lt
  have Y2 := X2.below b1 X2.lt
  have S2 := below_then S S.size b1
  clear HC X4 X2 S b1
  go_wp2_with fail
  refine (NM.out _).mono ?_
  rintro _ _ ⟨rfl, rfl⟩
  clear NM
  go_wp2_with (refine at_op (.store 5 (.tmp 35) (.tmp 33)) rfl ?_; go_must (refine wpList_stC rfl 5 (.tmp 35) (.tmp 33) rfl g (1 + k) rfl (.int .u8 (x : Int)) rfl Y4 (by rw [hcl]; omega) (by kernel_rfl) rfl rfl ?_))
  intro w3 B3 g3 _
  rw [HN.out] at B3
  have Z2 := Y2.grown g3 (by intro e; injection e with e; omega)
  have S3 := below_grown S2 g3 S2.size (by omega)
  clear g3 Y4 Y2 S2 HN
  go_wp2_with fail
  go_roundw
  case rel => exact ⟨k + 1, t2, by omega, by go_num, rfl, Hh (fun h => HT2.out h), B3, Z2, S3⟩
  case measure => simp [intOf]; omega
 obtain rfl : k = 4 := by omega
 have hlt' : ¬ ((4 : Nat) : Int) < 4 := by omega
 rw [H4.out] at X4
 have hql : qc.length = 18 := by rw [← H4.out]; exact qpC_len hx4 (Nat.le_refl 4)
 have Q1 := Hh (QT.out wr S)
 have hqo : ∀ v ∈ qc, v.oneCell' = true := by rw [← H4.out]; exact qpC_one xs 4
 clear QT HX8 HR0 H4 HTR hlt hx4
 go_wp2_with (refine at_op (.load 24 (.tmp 4)) rfl ?_; go_must (refine wpList_ldB rfl _ _ rfl g 0 rfl X4 18 (by omega) _ underlying24 rfl adrInfo qc (tk0 (by omega)) ?_))
 refine Q1.out.mono ?_
 rintro _ w5 ⟨rfl, b1⟩
 have Y4 := X4.below b1 X4.lt
 have Y2 := X2.below b1 X2.lt
 have S2 := below_then S S.size b1
 clear Q1 X4 X2 S b1
 go_wp2_with (first
  | (refine at_op (.load 24 (.tmp 4)) rfl ?_; go_must (refine wpList_ldB rfl _ _ rfl g 0 rfl Y4 18 (by omega) _ underlying24 rfl adrInfo qc (tk0 (by omega)) ?_))
  | (refine at_op (.store 24 (.tmp 2) (.tmp 43)) rfl ?_; go_must (refine wpList_stB rfl _ _ _ rfl w.heap.size 0 rfl qc rfl Y2 (by rw [hql]; exact Nat.le_refl 18) (by rw [hql]; exact adrInfo) hqo ?_)))
 intro w6 B6 g6 _
 have X6 := blkAll B6 (by have : adrZ.length = 18 := rfl; omega)
 have S6 := below_grown S2 g6 S2.size (Nat.le_refl _)
 clear B6 g6 Y4 Y2 S2
 go_wp2_with fail
 refine ret_cell_tmp rfl w.heap.size rfl X6 _ underlying24 rfl (by rw [hql]; exact adrInfo) rfl _ rfl ?_
 exact RetB.mk rfl S6
theorem quadT_no (a b c d : Nat) : (58 : UInt8) ∉ quadT a b c d := by
 have h : ∀ n : Nat, (58 : UInt8) ∉ Lib.itoa (n : Int) := fun n => digs_no (itoa_val n).2 (by decide)
 unfold quadT
 simp only [List.mem_append, List.mem_cons, not_or]
 have e : ¬ (58 : UInt8) = 46 := by decide
 simp [h, e]
theorem addrParse4_any (a b c d : UInt8) (w : World) (hT : Tb w) : Calls prog 86 #[.string (bs (quadT a.toNat b.toNat c.toNat d.toNat))] w (RetB (.tuple #[.agg (quadA a b c d).cells.toArray, .int .i64 0]) w) := by
 have IX := Hh (fun V => Tryz.strings_IndexByte (bs (quadT a.toNat b.toNat c.toNat d.toNat)) 58 V)
 have e : Lib.indexByte (bs (quadT a.toNat b.toNat c.toNat d.toNat)).data.toList (58 : Int).toNat.toUInt8 = -1 := ixb_no (quadT_no _ _ _ _)
 rw [e] at IX
 have QP := Hh (fun V (hV : Below w.heap.size w V) => quadParse_any a b c d V (hT.below hV))
 have hql : (quadA a b c d).cells.length = 18 := rfl
 have hqo : ∀ v ∈ (quadA a b c d).cells, v.oneCell' = true := Adr.cells_one _
 generalize quadT a.toNat b.toNat c.toNat d.toNat = T at *
 generalize (quadA a b c d).cells = qc at *
 have Z2 := Blk.newA w _ rfl
 have BB : Below w.heap.size w (w.alloc (.cells adrZ.toArray 24)) := (Below.refl _ _).alloc (Nat.le_refl _) _
 clear e
 go_enter func86, ntmps86
 go_wp2_with fail
 refine (IX.out _).mono ?_
 rintro _ _ ⟨rfl, rfl⟩
 clear IX
 go_wp2_with fail
 refine (QP.out _ BB).mono ?_
 rintro _ w2 ⟨rfl, b1⟩
 have Y2 := Z2.below b1 Z2.lt
 have S2 := below_then BB BB.size b1
 clear QP Z2 BB b1
 go_wp2_with (refine at_op (.store 24 (.tmp 2) (.tmp 13)) rfl ?_; go_must (refine wpList_stB rfl _ _ _ rfl w.heap.size 0 rfl qc rfl Y2 (by rw [hql]; exact Nat.le_refl 18) (by rw [hql]; exact adrInfo) hqo ?_))
 intro w6 B6 g6 _
 have X6 := blkAll B6 (by have : adrZ.length = 18 := rfl; omega)
 have S6 := below_grown S2 g6 S2.size (Nat.le_refl _)
 clear B6 g6 Y2 S2
 go_wp2_with fail
 refine ret_cell_tmp rfl w.heap.size rfl X6 _ underlying24 rfl (by rw [hql]; exact adrInfo) rfl _ rfl ?_
 exact RetB.mk rfl S6
theorem hex_any (c : UInt8) (h : isHx c = true) (w : World) : Calls prog 274 #[.int .u8 (c.toNat : Int)] w (Ret (.tuple #[.int .i64 (hexVal c : Nat), .bool true]) w) := by
 have h2 : (48 ≤ c.toNat ∧ c.toNat ≤ 57) ∨ (97 ≤ c.toNat ∧ c.toNat ≤ 102) := by simpa [isHx] using h
 rcases h2 with ⟨a, b⟩ | ⟨a, b⟩
 ·
  have e : (hexVal c : Int) = (c.toNat : Int) - 48 := by unfold hexVal; rw [if_pos b]; omega
  have a' : (48 : Int) ≤ c.toNat := by omega
  have b' : (c.toNat : Int) ≤ 57 := by omega
  rw [e]
  generalize (c.toNat : Int) = n at *
  clear e h a b
  go_enter func274, ntmps274
  go_wp2_with fail
  go_ret2
  exact ⟨rfl, rfl⟩
 ·
  have e : (hexVal c : Int) = (c.toNat : Int) - 97 + 10 := by unfold hexVal; rw [if_neg (by omega)]; omega
  have a' : (97 : Int) ≤ c.toNat := by omega
  have b' : (c.toNat : Int) ≤ 102 := by omega
  have d' : ¬ (c.toNat : Int) ≤ 57 := by omega
  rw [e]
  generalize (c.toNat : Int) = n at *
  clear e h a b
  go_enter func274, ntmps274
  go_wp2_with fail
  go_ret2
  exact ⟨rfl, rfl⟩
theorem or_hex (x y : Nat) (hx : x < 65536) (hy : y < 16) : bits .or .i64 ((x : Int) * 16) (y : Int) = ((16 * x + y : Nat) : Int) := by
 rw [bits_join .i64 32 (by decide) (fun n h0 h1 => IntWalk.i64_in _ (by omega)) 4 _ _ (by omega) (by omega) (by omega) (by omega) (by omega) (by omega)]
 omega
theorem hexVal_lt {c : UInt8} (h : isHx c = true) : hexVal c < 16 := by
 have h2 : (48 ≤ c.toNat ∧ c.toNat ≤ 57) ∨ (97 ≤ c.toNat ∧ c.toNat ≤ 102) := by simpa [isHx] using h
 unfold hexVal
 split <;> omega
theorem grp_fold_lt : ∀ (s : List UInt8), (∀ c ∈ s, isHx c = true) → ∀ m, s.foldl grpS m < 16 ^ s.length * (m + 1) := by
 intro s
 induction s with
 | nil => intro _ m; simp
 | cons c s ih =>
  intro h m
  have hc := hexVal_lt (h c (List.mem_cons_self ..))
  have := ih (fun x hx => h x (List.mem_cons_of_mem _ hx)) (grpS m c)
  rw [List.foldl_cons, List.length_cons, Nat.pow_succ]
  refine Nat.lt_of_lt_of_le this ?_
  rw [Nat.mul_assoc]
  refine Nat.mul_le_mul_left _ ?_
  unfold grpS
  omega
set_option maxHeartbeats 1000000 in
theorem group_any (s : List UInt8) (h : ∀ c ∈ s, isHx c = true) (h1 : 0 < s.length) (h4 : s.length ≤ 4) (w : World) : Calls prog 273 #[.string (bs s)] w (Ret (.tuple #[.int .i64 (s.foldl grpS 0 : Nat), .bool true]) w) := by
 have hne : s.isEmpty = false := by cases s with
  | nil => simp at h1
  | cons c s => rfl
 have h4' : ¬ (4 : Int) < s.length := by omega
 have HX := Lib.hid h
 have FD : Hid (∀ k, k ≤ s.length → (s.take k).foldl grpS 0 < 65536) := Hh (fun k hk => by
  have := grp_fold_lt (s.take k) (fun c hc => h c (List.mem_of_mem_take hc)) 0
  have h2 : 16 ^ (s.take k).length ≤ 16 ^ 4 := Nat.pow_le_pow_right (by omega) (by rw [List.length_take]; omega)
  omega)
 clear h
 go_enter func273, ntmps273
 go_wp2_with fail
 go_loopw [4, 17] (fun nv iv wr => ∃ k : Nat, k ≤ s.length ∧ iv = .int .i64 k ∧ nv = .int .i64 ((s.take k).foldl grpS 0 : Nat) ∧ wr = w) (fun _ iv _ => s.length - (intOf iv).toNat)
 case atStart => exact ⟨0, Nat.zero_le _, rfl, rfl, rfl⟩
 obtain ⟨k, hk, rfl, rfl, rfl⟩ := hrel
 by_cases hlt : k < s.length
 case pos =>
  have hlt' : (k : Int) < s.length := by omega
  have hc := HX.out _ (List.getElem_mem hlt)
  have HE := Hh (fun V => hex_any s[k] hc V)
  have hv := hexVal_lt hc
  have hm := FD.out k hk
  have HO := or_hex _ _ hm hv
  have HN : Hid ((s.take (k + 1)).foldl grpS 0 = 16 * (s.take k).foldl grpS 0 + hexVal s[k]) := Hh (by rw [List.take_succ_eq_append_getElem hlt, List.foldl_append]; rfl)
  clear hc
  generalize (s.take k).foldl grpS 0 = m at *
  generalize hexVal s[k] = d at *
  go_wp2_with fail
  refine (HE.out _).mono ?_
  rintro _ _ ⟨rfl, rfl⟩
  go_wp2_with fail
  go_roundw
  case rel => exact ⟨k + 1, by omega, by go_num, by rw [HN.out]; go_num, trivial⟩
  case measure => simp [intOf]; omega
 obtain rfl : k = s.length := by omega
 have hlt' : ¬ (s.length : Int) < s.length := by omega
 rw [List.take_of_length_le (Nat.le_refl _)]
 clear HX FD
 go_wp2_with fail
 go_ret2
 exact ⟨rfl, rfl⟩
theorem groupHex_any (n : Nat) (h : n < 65536) (w : World) : Calls prog 273 #[.string (bs (hexN n))] w (Ret (.tuple #[.int .i64 n, .bool true]) w) := by
 have := group_any (hexN n) (hexN_hx n) (hexN_pos n) (hexN_len n) w
 rw [hexN_val h] at this
 exact this
theorem groupLong_any (s : List UInt8) (h : 4 < s.length) (w : World) : Calls prog 273 #[.string (bs s)] w (Ret (.tuple #[.int .i64 0, .bool false]) w) := by
 have hne : s.isEmpty = false := by cases s with
  | nil => simp at h
  | cons c s => rfl
 have h4' : (4 : Int) < s.length := by omega
 go_enter func273, ntmps273
 go_wp2_with fail
 go_ret2
 exact ⟨rfl, rfl⟩
theorem pc_next {ps : List (List UInt8)} {k : Nat} (h : k + 1 < ps.length) : joinC 58 (ps.drop k) = ps[k] ++ 58 :: joinC 58 (ps.drop (k + 1)) := by
 rw [List.drop_eq_getElem_cons (by omega), List.drop_eq_getElem_cons (l := ps) (i := k + 1) h]
 simp only [joinC, List.flatMap_cons, List.cons_append]
theorem pc_last {ps : List (List UInt8)} {k : Nat} (h : k + 1 = ps.length) : joinC 58 (ps.drop k) = ps[k] := by
 rw [List.drop_eq_getElem_cons (by omega), List.drop_of_length_le (by omega)]
 simp [joinC]
theorem intI33 : (prog.info? 3).map (fun i => (i.zero, i.size, i.bytes)) = some (some (.int .i64 0), 1, 8) := by kernel_rfl
def natsV (gs : List Nat) : List Value := gs.map (fun (n : Nat) => Value.int .i64 (n : Int))
theorem natsV_len (gs : List Nat) : (natsV gs).length = gs.length := by simp [natsV]
theorem natsV_snoc (gs : List Nat) (n : Nat) : natsV (gs ++ [n]) = natsV gs ++ [.int .i64 (n : Int)] := by simp [natsV]
def SvRet (gs : List Nat) (w : World) (e : Ending) (w' : World) : Prop := ∃ v, e = .returned (.tuple #[v, .bool true]) ∧ w'.ownsRow w.heap.size 3 1 v gs.length (natsV gs) ∧ Below w.heap.size w w'
theorem cut58_any (ps : List (List UInt8)) (hp : Pcs ps) (hl : ∀ p ∈ ps, p.length ≤ 1000000) (k : Nat) (hk : k < ps.length) (w : World) : Calls prog 186 #[.string (bs (joinC 58 (ps.drop k))), .int .u8 58] w (RetB (.tuple #[.string (bs ps[k]), .string (bs (joinC 58 (ps.drop (k + 1)))), .bool (decide (k + 1 < ps.length))]) w) := by
 have h := hp _ (List.getElem_mem hk)
 by_cases h1 : k + 1 < ps.length
 ·
  rw [pc_next h1, decide_eq_true h1]
  exact cutYes_any ps[k] _ 58 h.2 (hl _ (List.getElem_mem hk)) w
 ·
  have h2 : k + 1 = ps.length := by omega
  rw [pc_last h2, decide_eq_false h1, List.drop_of_length_le (by omega)]
  exact (cutNo_any ps[k] 58 h.2 w).mono (fun e w' hr => hr.toB)
set_option maxHeartbeats 4000000 in
theorem several_any (gs : List Nat) (hg : ∀ n ∈ gs, n < 65536) (hl : gs.length ≤ 1000) (last : Bool) (w : World) : Calls prog 230 #[.string (bs (joinC 58 (gs.map hexN))), .bool last] w (SvRet gs w) := by
 by_cases h0 : gs = []
 case pos =>
  subst h0
  show Calls prog 230 #[.string (bs []), .bool last] w (SvRet [] w)
  go_enter func230, ntmps230
  go_wp2_with fail
  go_ret2
  exact ⟨_, rfl, World.ownsRow_nil _ _ _ _, Below.refl _ _⟩
 have hpos : 0 < gs.length := List.length_pos_iff.2 h0
 have hne : (joinC 58 (gs.map hexN)).isEmpty = false := by
  obtain ⟨c, t, _, he⟩ := (show ∃ c t, c ≠ 58 ∧ joinC 58 (gs.map hexN) = c :: t from by
   cases hgs : gs with
   | nil => exact absurd hgs h0
   | cons a l => exact Pcs.head (hex_pcs (a :: l)))
  rw [he]; rfl
 have CT := Hh (fun k (hk : k < (gs.map hexN).length) V => cut58_any (gs.map hexN) (hex_pcs gs) (fun p hp => by obtain ⟨n, _, rfl⟩ := List.mem_map.1 hp; have := hexN_len n; omega) k hk V)
 have GR := Hh (fun k (hk : k < gs.length) V => groupHex_any gs[k] (hg _ (List.getElem_mem hk)) V)
 have ML : (gs.map hexN).length = gs.length := List.length_map ..
 obtain ⟨JT, hJT⟩ : ∃ JT : Nat → List UInt8, Hid (∀ k, joinC 58 ((gs.map hexN).drop k) = JT k) := ⟨_, Hh (fun _ => rfl)⟩
 have hJ0 : joinC 58 (gs.map hexN) = JT 0 := by rw [← hJT.out 0, List.drop_zero]
 rw [hJ0] at hne ⊢
 have CT2 : Hid (∀ k (hk : k < gs.length) V, Calls prog 186 #[.string (bs (JT k)), .int .u8 58] V (RetB (.tuple #[.string (bs (hexN gs[k])), .string (bs (JT (k + 1))), .bool (decide (k + 1 < gs.length))]) V)) := Hh (fun k hk V => by
  have := CT.out k (by rw [ML]; exact hk) V
  rw [hJT.out, hJT.out, List.getElem_map] at this
  simp only [ML] at this
  exact this)
 clear CT hJT hJ0 ML h0 hg
 go_enter func230, ntmps230
 go_wp2_with fail
 go_loopw [0, 6, 7] (fun sv gv mv wr => ∃ k : Nat, k ≤ gs.length ∧ sv = .string (bs (JT k)) ∧ mv = .bool (decide (k < gs.length)) ∧ wr.ownsRow w.heap.size 3 1 gv k (natsV (gs.take k)) ∧ Below w.heap.size w wr) (fun sv gv mv wr => (match gv with | .slice _ n _ => gs.length + 1 - n | _ => 0) + (match mv with | .bool true => 1 | _ => 0))
 case atStart => exact ⟨0, Nat.zero_le _, rfl, by rw [decide_eq_true hpos], by simpa [natsV] using World.ownsRow_nil w w.heap.size 3 1, Below.refl _ _⟩
 obtain ⟨k, hk, rfl, rfl, ho, S⟩ := hrel
 by_cases hlt : k < gs.length
 case pos =>
  have CTk := Hh (CT2.out k hlt)
  have GRk := Hh (GR.out k hlt)
  have HNk := Hh (show natsV (gs.take (k + 1)) = natsV (gs.take k) ++ [.int .i64 (gs[k] : Nat)] by rw [List.take_succ_eq_append_getElem hlt, natsV_snoc])
  rw [decide_eq_true hlt]
  obtain ⟨md, hmd⟩ : ∃ md, Hid (decide (k + 1 < gs.length) = md) := ⟨_, Hh rfl⟩
  rw [hmd.out] at CTk
  generalize hexN gs[k] = pc at *
  generalize gs[k] = gk at *
  generalize natsV (gs.take k) = xs at *
  clear CT2 GR
  obtain ⟨Ag, ng, cg, hgv⟩ : ∃ A n c, u6 = .slice A n c := by
   rcases ho.2 with ⟨e, _⟩ | ⟨g, cap, cur, e, _⟩ <;> exact ⟨_, _, _, e⟩
  subst hgv
  have HO := Hh ho
  clear ho
  go_wp2_with fail
  refine (CTk.out _).mono ?_
  rintro _ w2 ⟨rfl, b2⟩
  have S2 := below_then S S.size b2
  have O2 := Hh (own_below HO.out b2)
  clear CTk S b2 HO
  go_wp2_with fail
  refine (GRk.out _).mono ?_
  rintro _ _ ⟨rfl, rfl⟩
  clear GRk
  go_wp2_with (at_builtin; go_must (refine wpList_appB _ rfl (.tmp 28) (.tmp 30) 59 rfl 3 (.int .i64 0) 1 8 underlying59 intI33 rfl (by decide) w.heap.size _ k _ rfl (World.ownsRow.alloc O2.out _) (by have := S2.size; simp; omega) _ 1 1 [_] rfl rfl (new_one _ _ _ _ rfl) (one_cell1 rfl) (by decide) (by simp only [maxLen]; omega) (by omega) ?_))
  intro g3 cap3 w3 hb3 hgr3 hlt3
  have S3 := below_own (S2.alloc S2.size _) (by have := S2.size; simp; omega) (World.ownsRow.alloc O2.out _) hgr3
  have hb4 : w3.ownsRow w.heap.size 3 1 (.slice (some ⟨g3, 0, none⟩) (k + 1) cap3) (k + 1) (natsV (gs.take (k + 1))) := by rw [HNk.out]; exact hb3
  have HB4 := Hh hb4
  have S4 := Hh S3
  have hng : ng = k := by
   rcases O2.out.2 with ⟨e, e2⟩ | ⟨g, cap, cur, e, _⟩
   ·
    injection e with _ e3 _; omega
   ·
    injection e with _ e3 _
  clear hb3 hgr3 hb4 S3 O2 S2
  cases md with
  | true =>
   go_wp2_with fail
   go_roundw
   case rel => exact ⟨k + 1, by omega, rfl, by rw [hmd.out], HB4.out, S4.out⟩
   case measure => rw [hng]; simp; omega
  | false =>
   go_wp2_with fail
   go_roundw
   case rel => exact ⟨k + 1, by omega, rfl, by rw [hmd.out], HB4.out, S4.out⟩
   case measure => rw [hng]; simp; omega
 obtain rfl : k = gs.length := by omega
 rw [decide_eq_false (Nat.lt_irrefl _)]
 rw [List.take_of_length_le (Nat.le_refl _)] at ho
 have HO := Hh ho
 clear ho CT2 GR
 go_wp2_with fail
 go_ret2
 exact ⟨_, rfl, HO.out, S⟩
theorem quadT_58 (a b c d : Nat) : (58 : UInt8) ∉ quadT a b c d := by
 have k : ∀ n : Nat, (58 : UInt8) ∉ Lib.itoa (n : Int) := fun n h => by
  have := (itoa_val n).2 58 h
  revert this
  decide
 unfold quadT
 intro h
 simp only [List.mem_append, List.mem_cons] at h
 rcases h with h | h | h | h | h | h | h
 ·
  exact k a h
 ·
  cases h
 ·
  exact k b h
 ·
  cases h
 ·
  exact k c h
 ·
  cases h
 ·
  exact k d h
theorem quadT_long (a b c d : Nat) : 4 < (quadT a b c d).length := by
 have := itoa_pos a; have := itoa_pos b; have := itoa_pos c; have := itoa_pos d
 unfold quadT
 simp only [List.length_append, List.length_cons]
 omega
set_option maxHeartbeats 4000000 in
theorem several4_any (a b c d : UInt8) (w : World) (hT : Tb w) : Calls prog 230 #[.string (bs (hexN 65535 ++ 58 :: quadT a.toNat b.toNat c.toNat d.toNat)), .bool true] w (SvRet [65535, 256 * a.toNat + b.toNat, 256 * c.toNat + d.toNat] w) := by
 have HXN : hexN 65535 = [102, 102, 102, 102] := by decide
 have C1 := Hh (fun V => cutYes_any [102, 102, 102, 102] (quadT a.toNat b.toNat c.toNat d.toNat) 58 (by decide) (by decide) V)
 have C2 := Hh (fun V => cutNo_any (quadT a.toNat b.toNat c.toNat d.toNat) 58 (quadT_58 _ _ _ _) V)
 have G1 := Hh (fun V => groupHex_any 65535 (by omega) V)
 have G2 := Hh (fun V => groupLong_any (quadT a.toNat b.toNat c.toNat d.toNat) (quadT_long _ _ _ _) V)
 have QP := Hh (fun V (hV : Below w.heap.size w V) => quadParse_any a b c d V (hT.below hV))
 rw [HXN] at G1 ⊢
 have O1 := or_grp a.toNat b.toNat a.toNat_lt b.toNat_lt
 have O2 := or_grp c.toNat d.toNat c.toNat_lt d.toNat_lt
 have hne : ([102, 102, 102, 102] ++ 58 :: quadT a.toNat b.toNat c.toNat d.toNat : List UInt8).isEmpty = false := rfl
 generalize quadT a.toNat b.toNat c.toNat d.toNat = T at *
 obtain ⟨S0, hS0⟩ : ∃ S0, Hid ([102, 102, 102, 102] ++ 58 :: T = S0) := ⟨_, Hh rfl⟩
 rw [hS0.out] at C1 hne ⊢
 clear HXN hT hS0
 go_enter func230, ntmps230
 go_wp2_with fail
 refine wp_loop_rounds 3 ?_
 rw [rounds_succ]
 go_wp2_with fail
 refine (C1.out _).mono ?_
 rintro _ w1 ⟨rfl, b1⟩
 clear C1
 go_wp2_with fail
 refine (G1.out _).mono ?_
 rintro _ _ ⟨rfl, rfl⟩
 clear G1
 go_wp2_with (at_builtin; go_must (refine wpList_appB _ rfl (.tmp 28) (.tmp 30) 59 rfl 3 (.int .i64 0) 1 8 underlying59 intI33 rfl (by decide) w.heap.size _ 0 [] rfl (World.ownsRow_nil _ _ _ _) (by have := b1.size; simp; omega) _ 1 1 [_] rfl rfl (new_one _ _ _ _ rfl) (one_cell1 rfl) (by decide) (by decide) (by decide) ?_))
 intro g3 cap3 w3 hb3 hgr3 hlt3
 have S3 := Hh (below_own ((b1.alloc b1.size _)) (by have := b1.size; simp; omega) (World.ownsRow_nil _ w.heap.size 3 1) hgr3)
 have HB3 := Hh hb3
 clear hb3 hgr3 b1
 go_wp2_with fail
 rw [rounds_succ]
 go_wp2_with fail
 refine (C2.out _).mono ?_
 rintro _ _ ⟨rfl, rfl⟩
 clear C2
 go_wp2_with fail
 refine (G2.out _).mono ?_
 rintro _ _ ⟨rfl, rfl⟩
 clear G2
 go_wp2_with fail
 refine (QP.out _ S3.out).mono ?_
 rintro _ w4 ⟨rfl, b4⟩
 have S4 := Hh (below_then S3.out S3.out.size b4)
 have HB4 := Hh (own_below HB3.out b4)
 clear S3 HB3 b4 QP
 have QC : (quadA a b c d).cells = [.int .i64 4, .int .u8 (a.toNat : Int), .int .u8 (b.toNat : Int), .int .u8 (c.toNat : Int), .int .u8 (d.toNat : Int), .int .u8 0, .int .u8 0, .int .u8 0, .int .u8 0, .int .u8 0, .int .u8 0, .int .u8 0, .int .u8 0, .int .u8 0, .int .u8 0, .int .u8 0, .int .u8 0, .int .i64 0] := rfl
 have wa := u8w a
 have wb := u8w b
 have wc := u8w c
 have wd := u8w d
 rw [QC]
 clear QC
 have hs4 : w.heap.size ≤ w4.heap.size + 1 + 1 := Nat.le_trans S4.out.size (by omega)
 have S4' := Hh ((S4.out.alloc S4.out.size (.cells #[.int .i64 4, .int .u8 (a.toNat : Int), .int .u8 (b.toNat : Int), .int .u8 (c.toNat : Int), .int .u8 (d.toNat : Int), .int .u8 0, .int .u8 0, .int .u8 0, .int .u8 0, .int .u8 0, .int .u8 0, .int .u8 0, .int .u8 0, .int .u8 0, .int .u8 0, .int .u8 0, .int .u8 0, .int .i64 0] 24)).alloc (by have := S4.out.size; simp; omega) (.cells #[.int .i64 ((256 * a.toNat + b.toNat : Nat) : Int), .int .i64 ((256 * c.toNat + d.toNat : Nat) : Int)] 3))
 have la : 0 ≤ (a.toNat : Int) ∧ (a.toNat : Int) ≤ 255 := ⟨by omega, by have := a.toNat_lt; omega⟩
 have lb : 0 ≤ (b.toNat : Int) ∧ (b.toNat : Int) ≤ 255 := ⟨by omega, by have := b.toNat_lt; omega⟩
 have lc : 0 ≤ (c.toNat : Int) ∧ (c.toNat : Int) ≤ 255 := ⟨by omega, by have := c.toNat_lt; omega⟩
 have ld : 0 ≤ (d.toNat : Int) ∧ (d.toNat : Int) ≤ 255 := ⟨by omega, by have := d.toNat_lt; omega⟩
 obtain ⟨a0, a1⟩ := la
 obtain ⟨b0, b1⟩ := lb
 obtain ⟨c0, c1⟩ := lc
 obtain ⟨d0, d1⟩ := ld
 obtain ⟨x, hx⟩ : ∃ x, Hid (256 * a.toNat + b.toNat = x) := ⟨_, Hh rfl⟩
 obtain ⟨y, hy⟩ : ∃ y, Hid (256 * c.toNat + d.toNat = y) := ⟨_, Hh rfl⟩
 rw [hx.out] at O1 S4' ⊢
 rw [hy.out] at O2 S4' ⊢
 generalize (a.toNat : Int) = ai at *
 generalize (b.toNat : Int) = bi at *
 generalize (c.toNat : Int) = ci at *
 generalize (d.toNat : Int) = di at *
 clear wa wb wc wd
 go_wp2_with (at_builtin; go_must (refine wpList_appB _ rfl (.tmp 46) (.tmp 67) 59 rfl 3 (.int .i64 0) 1 8 underlying59 intI33 rfl (by decide) w.heap.size _ 1 [.int .i64 65535] rfl (World.ownsRow.alloc (World.ownsRow.alloc HB4.out _) _) (by simp only [World.size_alloc]; exact hs4) _ 2 2 [.int .i64 (x : Int), .int .i64 (y : Int)] rfl rfl (new_two _ _ _ _ _ (by simp)) (fun u hu => by simp at hu; rcases hu with rfl | rfl <;> rfl) (by decide) (by decide) (by decide) ?_))
 intro g5 cap5 w5 hb5 hgr5 hlt5
 have S5 := Hh (below_own S4'.out (by simp only [World.size_alloc]; exact hs4) (World.ownsRow.alloc (World.ownsRow.alloc HB4.out _) _) hgr5)
 have HB5 : Hid (w5.ownsRow w.heap.size 3 1 (.slice (some ⟨g5, 0, none⟩) 3 cap5) [65535, x, y].length (natsV [65535, x, y])) := Hh (by simpa [natsV] using hb5)
 clear hb5 hgr5 S4 HB4
 go_wp2_with fail
 rw [rounds_succ]
 go_wp2_with fail
 go_ret2
 have HF := HB5.out
 rw [← hx.out, ← hy.out] at HF
 exact ⟨_, rfl, HF, S5.out⟩
end Go.Proofs.YteimenplbanooaaGreatDoor
