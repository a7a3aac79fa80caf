/-
  StreamFeeds: in whichever pieces octets come: the law returns true, and nothing that was there has turned.
-/
import Derived.Test.YtokcfkfkpcgliaaLaw15
import Derived.Laws.AppendOwnNone
namespace Go.Proofs.Ytokcfkfkpcgliaa
open Go.RowKit
set_option maxRecDepth 100000

/-- append of a row of texts onto a row of texts. -/
theorem wpList_app_t (w : World) {ops : Array Oper} {rest : List Oper} {o : Oper} {a : Act} {Q : Exit → Act → World → Prop} (hgd : o.guard = none) (s x : Operand)
    (ho : o.op = .call { callee := .builtin .append, args := #[s, x], argTypes := #[38, 38] })
    (v v2 : Value) (l1 l2 : List (List UInt8)) (hs : a.eval s = v) (t1 : Txts w v l1) (hx : a.eval x = v2) (t2 : Txts w v2 l2) (h63 : l1.length + l2.length ≤ 8796093022207)
    (h : ∀ v' w', Txts w' v' (l1 ++ l2) → w.grownBy w' v.ownBlock → (v'.ownBlock = v.ownBlock ∨ v'.ownBlock = some w.heap.size) → wpList Try.prog ops Q rest (a.put o.dst v') w') :
    wpList Try.prog ops Q (o :: rest) a w := by
  obtain ⟨i, hi, hz, hsize, hby⟩ := info_parts strInfo
  rcases t2.2 with ⟨rfl, h0⟩ | ⟨g, cap, cur, rfl, _, hh, _⟩
  · have hl2 : l2 = [] := List.length_eq_zero_iff.1 h0
    subst hl2
    refine wpList_append_own_none hgd s x 38 ho 0 9 i 1 Try.underlying38 hi v l1.length _ hs t1 hx ?_
    exact h v w (by rw [List.append_nil]; exact t1) (World.grownBy.refl _ _) (.inl rfl)
  · refine wpList_append_own_at w hgd s x 38 ho 0 9 i (.string ⟨#[]⟩) 1 16 Try.underlying38 hi hz hsize hby rfl (by decide) v l1.length _ hs t1 ⟨g, 0, none⟩ l2.length cap (l2.map fun t => Value.string (bs t)) hx (by simp)
      (World.ownsRow.cells t2 rfl) (by simp [Value.oneCell']) (by simp only [maxLen]; omega) (by omega) (Nat.zero_le _) ?_
    intro v' w' own hg _ hat
    exact h v' w' (by unfold Txts; simpa using own) hg hat

/-- The text of the first k pieces. -/
def joinT (l : List (List UInt8)) (k : Nat) : List UInt8 := (l.take k).flatten
theorem joinT_succ (l : List (List UInt8)) (k : Nat) (h : k < l.length) : joinT l (k + 1) = joinT l k ++ l[k] := by
  unfold joinT; rw [List.take_succ_eq_append_getElem h, List.flatten_append]; simp only [List.flatten_cons, List.flatten_nil, List.append_nil]
/-- What holds while pieces are fed. -/
def FeedsInv (w : World) (g : Nat) (l : List (List UInt8)) (k : Nat) (v : Value) (wr : World) : Prop :=
  Txts wr v (frames (joinT l k)) ∧ JoinAt wr g (restF (joinT l k)) ∧ Below w.heap.size w wr ∧ (∀ j, v.ownBlock = some j → w.heap.size ≤ j)

set_option maxHeartbeats 1000000 in
theorem streamFeeds_in (A : Option Addr) (c : Nat) (l : List (List UInt8)) (w : World) (hA : TxtR w A l) (hl : l.length ≤ 60) :
    Calls Try.prog 5 #[.slice A l.length c] w (RetB (.bool true) w) := by
  have hl' : (l.length : Int) ≤ 60 := by omega
  go_enter Try.func5, Try.ntmps5
  go_wp2_with fail
  refine (works15 _).mono ?_
  rintro e w1 ⟨rfl, b1⟩
  go_wp2_with fail
  obtain ⟨W, hW⟩ : ∃ W, W = w1.alloc (.cells #[.pointer none, .int .i64 0, .int .u8 0, .int .u8 0] 43) := ⟨_, rfl⟩
  rw [← hW]
  have hA1 : TxtR w1 A l := hA.below b1
  have hAW : TxtR W A l := hW ▸ hA1.below ((Below.refl _ _).alloc (Nat.le_refl _) _)
  have hBW : Below w.heap.size w W := hW ▸ b1.alloc b1.size _
  have hJ : JoinAt W w1.heap.size [] := hW ▸ joinNew w1
  have hgw : w.heap.size ≤ w1.heap.size := b1.size
  have HI := Lib.hid (show FeedsInv w w1.heap.size l 0 (.slice none 0 0) W from ⟨Txts.nil _, hJ, hBW, by simp [Value.ownBlock]⟩)
  clear hW hA1 hAW hJ hBW b1
  go_loopw [5, 6, 7] (fun q v i wr => ∃ k : Nat, k ≤ l.length ∧ i = .int .i64 k ∧ q = .string (bs (joinT l k)) ∧ (joinT l k).length ≤ 1000 * k ∧ FeedsInv w w1.heap.size l k v wr) (fun _ _ i _ => l.length - (intOf i).toNat)
  case atStart => exact ⟨0, by omega, rfl, rfl, by simp [joinT], HI.out⟩
  case round =>
    clear HI
    obtain ⟨k, hk, rfl, rfl, hlen, t0, j0, b0, hob⟩ := hrel
    have OB := Lib.hid hob
    clear hob
    by_cases hlt : k < l.length
    · have hlt' : (k : Int) < l.length := by omega
      obtain ⟨ba, oa, rfl, hba, xa⟩ := hA (by omega)
      have xk := (b0.cell hba).trans (xa k hlt)
      by_cases hlong : 1000 < (l[k]).length
      · have hlong' : (1000 : Int) < (l[k]).length := by omega
        go_wp2_with fail
        go_ret
        exact RetB.mk rfl b0
      · have hlong' : ((l[k]).length : Int) ≤ 1000 := by omega
        have JS := Lib.hid (joinT_succ l k hlt)
        have hrl := restF_le _ (joinT l k) (Nat.le_refl _)
        obtain ⟨fa1, fa2⟩ := frames_app _ (joinT l k) (l[k]) (Nat.le_refl _)
        have FA1 := Lib.hid fa1
        have FA2 := Lib.hid fa2
        clear fa1 fa2 xa
        go_wp2_with fail
        refine (feed_any _ _ _ _ j0 (by omega)).mono ?_
        rintro e w2 ⟨v2, rfl, t2, j2, g2⟩
        obtain ⟨_, _, _, _, jb, _⟩ := id j0
        have t0' : Txts w2 u6 (frames (joinT l k)) := t0.grown g2 jb (by decide)
        have b2 : Below w.heap.size w w2 := below_grown b0 g2 b0.size hgw
        clear jb t0 j0 b0 g2
        have hfl := frames_le _ (joinT l k) (Nat.le_refl _)
        have hfl2 := frames_le _ (restF (joinT l k) ++ l[k]) (Nat.le_refl _)
        rw [List.length_append] at hfl2
        have hrl2 : (joinT l k).length + (l[k]).length ≤ 61000 := by omega
        go_wp2_with (at_builtin; go_must (refine wpList_app_t _ rfl (.tmp 38) (.tmp 44) rfl u6 v2 _ _ rfl t0' rfl t2 (by omega) ?_))
        intro v3 w3 t3 g3 hat3
        have j3 : JoinAt w3 w1.heap.size (restF (restF (joinT l k) ++ l[k])) := j2.keep (own_keeps t0' g3)
        have b3 : Below w.heap.size w w3 := b2.grown g3 b2.size OB.out
        have ob3 : ∀ j, v3.ownBlock = some j → w.heap.size ≤ j := by
          intro j hj
          rcases hat3 with e | e
          · exact OB.out j (by rw [← e]; exact hj)
          · rw [e] at hj; injection hj with hj; have := b2.size; omega
        rw [← FA1.out] at t3
        rw [← FA2.out] at j3
        rw [← JS.out] at t3 j3
        have OB3 := Lib.hid ob3
        obtain ⟨A3, c3, rfl, r3, _⟩ := id t3.form
        clear hat3 g3 ob3 OB t0' t2 j2 b2 FA1 FA2
        have hlen2 : (joinT l (k + 1)).length ≤ 1000 * (k + 1) := by rw [JS.out, List.length_append]; omega
        have hlen3 : (joinT l (k + 1)).length ≤ 61000 := by omega
        have hap : bs (joinT l k) ++ bs l[k] = bs (joinT l (k + 1)) := by rw [JS.out, bs_app]
        rw [show joinT l k ++ l[k] = joinT l (k + 1) from JS.out.symm]
        have hfl3 := frames_le _ (joinT l (k + 1)) (Nat.le_refl _)
        go_wp2_with fail
        refine (frames_any _ _ (by omega)).mono ?_
        rintro e w4 ⟨v4, rfl, t4, b4⟩
        obtain ⟨A4, c4, rfl, r4, _⟩ := t4.form
        have r3' := r3.below b4
        go_wp2_with fail
        refine (same_any A3 A4 _ _ c3 c4 _ r3' r4 (by omega) (by omega)).mono ?_
        rw [decide_eq_true rfl]
        rintro e w5 ⟨rfl, b5⟩
        have j5 := (j3.below b4).below b5
        have b5' := below_then (below_then b3 b3.size b4) (below_then b3 b3.size b4).size b5
        have xk5 : w5.cell? ⟨ba, oa + k, none⟩ = some (.string (bs l[k])) := (b5'.cell hba).trans (by obtain ⟨ba', oa', e, _, xa⟩ := hA (by omega); cases e; exact xa k hlt)
        have t5 := (t3.below b4).below b5
        have T5 := Lib.hid t5
        have hrl5 := restF_le _ (joinT l (k + 1)) (Nat.le_refl _)
        clear t3 t4 r3 r3' r4 b4 b5 b3 j3 hap t5
        go_wp2_with fail
        refine (joinLeft_any _ _ _ j5).mono ?_
        rintro e w' ⟨rfl, rfl⟩
        have hne : ((((restF (joinT l (k + 1))).length : Nat) : Int) != ((joinT l (k + 1)).length : Int) - (((joinT l (k + 1)).length - (restF (joinT l (k + 1))).length : Nat) : Int)) = false := by
          simp; omega
        go_wp2_with fail
        refine (feed_nil _ _).mono ?_
        rintro e w' ⟨rfl, rfl⟩
        go_wp2_with fail
        refine (joinLeft_nil _).mono ?_
        rintro e w' ⟨rfl, rfl⟩
        go_wp2_with fail
        go_roundw
        case rel => exact ⟨k + 1, by omega, by go_num, rfl, hlen2, T5.out, j5, b5', OB3.out⟩
        case measure => simp [intOf]; omega
    · have hlt' : ¬ (k : Int) < l.length := by omega
      go_wp2_with fail
      go_ret
      exact RetB.mk rfl b0

theorem streamFeeds_any (A : Option Addr) (c : Nat) (l : List (List UInt8)) (w : World) (hA : TxtR w A l) : Calls Try.prog 5 #[.slice A l.length c] w (RetB (.bool true) w) := by
  by_cases hl : l.length ≤ 60
  · exact streamFeeds_in A c l w hA hl
  · have hl' : (60 : Int) < l.length := by omega
    go_enter Try.func5, Try.ntmps5
    go_wp2_with fail
    refine (works15 _).mono ?_
    rintro e w1 ⟨rfl, b1⟩
    go_wp2_with fail
    refine (works15 _).mono ?_
    rintro e w2 ⟨rfl, b2⟩
    go_wp2_with fail
    go_ret
    exact RetB.mk rfl (below_then b1 b1.size b2)
end Go.Proofs.Ytokcfkfkpcgliaa
