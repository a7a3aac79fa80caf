/-
  Layer 15 (stream): all pieces as one text.
-/
import Derived.Test.YtokcfkfkpcgliaaStream2
namespace Go.Proofs.Ytokcfkfkpcgliaa
open Go.RowKit
set_option maxRecDepth 100000

/-- The row while the pieces are copied in, from behind: zeros, then the text of what was copied. -/
def fillV (n : Nat) (done : List UInt8) : List Value := octs (List.replicate (n - done.length) 0) ++ octs done
theorem fillV_length (n : Nat) (done : List UInt8) (h : done.length ≤ n) : (fillV n done).length = n := by simp [fillV, octs_length]; omega
theorem fillV_copy (n : Nat) (t done : List UInt8) (h : t.length + done.length ≤ n) :
    (fillV n done).take (n - (t.length + done.length)) ++ octs t ++ (fillV n done).drop (n - (t.length + done.length) + t.length) = fillV n (t ++ done) := by
  have e1 : (fillV n done).take (n - (t.length + done.length)) = octs (List.replicate (n - (t.length + done.length)) 0) := by
    unfold fillV
    rw [List.take_append_of_le_length (by simp [octs_length]; omega)]
    simp [octs, List.take_replicate]
    omega
  have e2 : (fillV n done).drop (n - (t.length + done.length) + t.length) = octs done := by
    unfold fillV
    rw [List.drop_append_of_le_length (by simp [octs_length]; omega), List.drop_of_length_le (by simp [octs_length]; omega), List.nil_append]
  rw [e1, e2]
  unfold fillV
  rw [octs_app, List.length_append, List.append_assoc]

theorem Chain.keep {w w' : World} (hk : ∀ g cs, Blk w g 114 cs → Blk w' g 114 cs) : ∀ (ts : List (List UInt8)) (o : Option Nat), Chain w ts o → Chain w' ts o := by
  intro ts
  induction ts with
  | nil => intro o h; exact h
  | cons t rest ih =>
    rintro o ⟨g, next, h1, h2, h3, h4⟩
    exact ⟨g, next, h1, h2, hk g _ h3, ih next h4⟩
theorem Blk.ne_of {w : World} {g g' : Nat} {t t' : TypeId} {cs cs' : List Value} (h : Blk w g t cs) (h' : Blk w g' t' cs') (hne : t ≠ t') : g ≠ g' := by
  rintro rfl
  unfold Blk at h h'
  rw [h] at h'
  injection h' with h'
  injection h' with _ ht
  exact hne ht
/-- What holds while the pieces are copied. -/
def EmptyInv (w : World) (g : Nat) (p : List UInt8) (last : Option Nat) (b0 b1 : UInt8) (k : Option Nat) (ts : List (List UInt8)) (done : List UInt8) (wr : World) : Prop :=
  Blk wr g 43 [.pointer (last.map fun k => ⟨k, 0, none⟩), .int .i64 p.length, .int .u8 (b0.toNat : Int), .int .u8 (b1.toNat : Int)] ∧ Chain wr ts k ∧ textOf ts ++ done = p ∧
    Blk wr w.heap.size 5 (fillV p.length done) ∧ Below w.heap.size w wr

theorem empty_any (g : Nat) (p : List UInt8) (w : World) (h : JoinAt w g p) (hm : p.length ≤ 281474976710656) : Calls Try.prog 57 #[.pointer (some ⟨g, 0, none⟩)] w (JoinRet (.string (bs p)) g [] w) := by
  obtain ⟨last, ts, b0, b1, hk, hc, ht, h0, h1⟩ := h
  have c0 := hk.cell_ 0 rfl
  have c1 := hk.cell_ 1 rfl
  have hgl := hk.lt
  have hmk := run_mkbytes p.length hm
  have hinv : EmptyInv w g p last b0 b1 last ts [] (w.alloc (.cells (octs (List.replicate p.length 0)).toArray 5)) :=
    ⟨hk.alloc _, Chain.alloc _ _ _ hc, by rw [ht, List.append_nil], by
      have := Blk.new w 5 (octs (List.replicate p.length 0))
      simpa [fillV, octs] using this, (Below.refl _ _).alloc (Nat.le_refl _) _⟩
  have HI := Lib.hid hinv
  clear hinv hc ht h0 h1 hk
  go_enter Try.func57, Try.ntmps57
  go_wp2_with fail
  clear hmk c0 c1
  go_loopw [4, 5] (fun at_ q wr => ∃ (k : Option Nat) (ts : List (List UInt8)) (done : List UInt8) (o : Option Addr), o = k.map (fun k => ⟨k, 0, none⟩) ∧ at_ = .int .i64 ((p.length - done.length : Nat) : Int) ∧ q = .pointer o ∧ EmptyInv w g p last b0 b1 k ts done wr)
    (fun at_ _ _ => (intOf at_).toNat)
  case atStart => exact ⟨last, ts, [], _, rfl, by simp, rfl, HI.out⟩
  case round =>
    clear HI
    obtain ⟨k, ts, done, o, ho, rfl, rfl, q0, q1, q2, q3, q4⟩ := hrel
    rcases ts with _ | ⟨t, rest⟩
    · obtain rfl : k = none := q1
      obtain rfl : o = none := ho
      have hd : done = p := by simpa [textOf] using q2
      subst hd
      have c0 := q0.cell_ 0 rfl
      have c1 := q0.cell_ 1 rfl
      have c2 := q0.cell_ 2 rfl
      have c3 := q0.cell_ 3 rfl
      have f0 := q0.frozen 0
      have f1 := q0.frozen 1
      have f2 := q0.frozen 2
      have f3 := q0.frozen 3
      have hgn : g ≠ w.heap.size := by omega
      have hg4 : wr.grownBy ((((wr.setCell ⟨g, 0, none⟩ (.pointer none)).setCell ⟨g, 1, none⟩ (.int .i64 0)).setCell ⟨g, 2, none⟩ (.int .u8 0)).setCell ⟨g, 3, none⟩ (.int .u8 0)) (some g) := grown_set (grown_set (grown_set (grown_set (World.grownBy.refl _ _) 0 _) 1 _) 2 _) 3 _
      have hk4 : Blk ((((wr.setCell ⟨g, 0, none⟩ (.pointer none)).setCell ⟨g, 1, none⟩ (.int .i64 0)).setCell ⟨g, 2, none⟩ (.int .u8 0)).setCell ⟨g, 3, none⟩ (.int .u8 0)) g 43 [.pointer none, .int .i64 0, .int .u8 0, .int .u8 0] := (((q0.set 0 (.pointer none)).set 1 (.int .i64 0)).set 2 (.int .u8 0)).set 3 (.int .u8 0)
      have hcv := run_str_of_row _ w.heap.size done.length done _ (q3.grown hg4 (by simp; omega)) (by unfold fillV; rw [Nat.sub_self, List.take_of_length_le (by simp [octs])]; rfl)
      have HK := Lib.hid hk4
      have HG := Lib.hid hg4
      clear hk4 hg4
      go_wp2_with fail
      go_ret
      refine ⟨rfl, ⟨none, [], 0, 0, HK.out, rfl, rfl, by simp, by simp⟩, ?_⟩
      exact grown_trans (grown_of_below q4 (some g)) HG.out (.inl rfl)
    · obtain ⟨kk, next, rfl, r1, r2, r3⟩ := q1
      obtain rfl : o = some ⟨kk, 0, none⟩ := ho
      obtain ⟨o2, ho2⟩ : ∃ o2 : Option Addr, o2 = next.map fun k => ⟨k, 0, none⟩ := ⟨_, rfl⟩
      rw [← ho2] at r2
      have HO := Lib.hid ho2
      clear ho2
      have c0 := r2.cell_ 0 rfl
      have c1 := r2.cell_ 1 rfl
      rw [textOf_cons] at q2
      have hlen : (textOf rest).length + t.length + done.length = p.length := by rw [← q2]; simp; omega
      have hpos : 0 < t.length := List.length_pos_iff.2 r1
      have hl1 : t.length + done.length ≤ p.length := by omega
      obtain ⟨m, hm1⟩ : ∃ m, m = p.length - (t.length + done.length) := ⟨_, rfl⟩
      rw [show p.length - done.length = m + t.length by omega]
      have hfl := fillV_length p.length done (by omega)
      have hcp := run_copy_str wr.drew w.heap.size m (p.length - m) (p.length - m) t (fillV p.length done) q3.drew (by omega) (by omega)
      have hfc := fillV_copy p.length t done hl1
      rw [← hm1] at hfc
      rw [hfc] at hcp
      have hmp : m ≤ p.length := by omega
      have hne : ¬ p.length = m := by omega
      have hgk := r2.lt
      have Q2 := Lib.hid q2
      have HL := Lib.hid hlen
      have HM := Lib.hid hm1
      clear hfc hfl q2 hlen hm1
      generalize hF : fillV p.length (t ++ done) = F at *
      have HF := Lib.hid hF
      clear hF
      go_wp2_with fail
      go_region
      obtain ⟨W, hW⟩ : ∃ W, W = wr.drew.setRow w.heap.size F.toArray := ⟨_, rfl⟩
      rw [← hW]
      have hkeep : ∀ j t cs, t ≠ 5 → Blk wr j t cs → Blk W j t cs := fun j t cs hne hb => hW ▸ setRow_far hb.drew _ (hb.ne_of q3 hne)
      have s0 := hkeep _ _ _ (by decide) q0
      have s2 := hkeep _ _ _ (by decide) r2
      have s3 := Chain.keep (fun j cs hb => hkeep j _ cs (by decide) hb) _ _ r3
      have s4 : Blk W w.heap.size 5 F := hW ▸ setRow_blk q3.drew F
      have s5 : Below w.heap.size w W := hW ▸ below_setRow q4.drew (Nat.le_refl _) _
      clear hW hkeep hcp q0 q3 q4 r2 r3 c0 c1
      have c1 := s2.cell_ 1 rfl
      go_wp2_with fail
      go_roundw
      case rel =>
        refine ⟨next, rest, t ++ done, o2, HO.out, ?_, rfl, s0, s3, by rw [← List.append_assoc]; exact Q2.out, by rw [HF.out]; exact s4, s5⟩
        have := HM.out
        rw [List.length_append, this]
      case measure => simp [intOf]; omega
end Go.Proofs.Ytokcfkfkpcgliaa
