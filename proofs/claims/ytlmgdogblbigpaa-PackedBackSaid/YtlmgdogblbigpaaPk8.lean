/-
  Layer 12 (packed): Put.
-/
import Derived.Test.YtlmgdogblbigpaaPk7
import Derived.Test.YtlmgdogblbigpaaPkPut
import Derived.Deep.CutBlock
namespace Go.Proofs.Ytlmgdogblbigpaa
open Go.RowKit Go.Maps
set_option maxRecDepth 100000
set_option linter.unusedVariables false

theorem put_bad (p : Option Addr) (A : Option Addr) (c : Nat) (n : List (List UInt8)) (at_ : Int) (w : World) (hA : TxtR w A n) (hm : n.length ≤ 281474976710656) (hc : checkN n ≠ 0) :
    Calls Try.prog 24 #[.pointer p, .slice A n.length c, .int .i64 at_] w (Ret (.tuple #[.string (bs []), .int .i64 (checkN n)]) w) := by
  have C := dcheck_any A c n w hA hm
  generalize checkN n = e at *
  have hc' : (e != 0) = true := by simpa using hc
  go_enter Try.func24, Try.ntmps24
  go_wp2_with fail
  refine C.mono ?_
  rintro _ w1 ⟨rfl, rfl⟩
  go_wp2_with fail
  go_ret2
  exact Ret.mk rfl rfl
/-- What Put without a table tells. -/
def encZ (n : List (List UInt8)) : List UInt8 := encN n ++ [0]
theorem put_nil (A : Option Addr) (c : Nat) (n : List (List UInt8)) (at_ : Int) (w : World) (hA : TxtR w A n) (hm : n.length ≤ 281474976710656) (hc : checkN n = 0) :
    Calls Try.prog 24 #[.pointer none, .slice A n.length c, .int .i64 at_] w (RetB (.tuple #[.string (bs (encZ n)), .int .i64 0]) w) := by
  have C := dcheck_any A c n w hA hm
  obtain ⟨hg, hs⟩ := checkN_ok hc
  have hs' : lsum n ≤ 254 := by omega
  have O := octets_any A c n w hA hg hs'
  rw [hc] at C
  have hl : (encN n).length ≤ 254 := by rw [encN_length]; exact hs'
  clear hc hg
  unfold encZ
  go_enter Try.func24, Try.ntmps24
  go_wp2_with fail
  refine C.mono ?_
  rintro _ w1 ⟨rfl, rfl⟩
  go_wp2_with fail
  refine O.mono ?_
  rintro _ w1 ⟨v, rfl, ho, hB⟩
  generalize encN n = q at *
  go_wp2_with fail
  go_ret2
  exact RetB.mk rfl hB
/-- What Put with a table tells. -/
def PutRet (g b : Nat) (s : List UInt8) (T : List (List (List UInt8) × Nat)) (w : World) (e : Ending) (w' : World) : Prop :=
  e = .returned (.tuple #[.string (bs s), .int .i64 0]) ∧ TabAt w' g b T ∧ w.grownBy w' (some b)
/-- Behind the search: how many labels stand ahead of the first name of the table. -/
def PutMid (g b : Nat) (T : List (List (List UInt8) × Nat)) (n : List (List UInt8)) (at_ : Int) (w : World) (bg out : Value) (wx : World) : Prop :=
  ∃ (k c : Nat) (A : Option Addr), k ≤ n.length ∧ bg = .slice A k c ∧ out = .string (bs (pgo T at_ [] n).1) ∧ (pgo T at_ [] n).2 = rowsK at_ 0 n k ∧ (∀ j, j < k → look T (n.drop j) = none) ∧
    (∀ i, i < k → ∃ B, A = some ⟨B, 0, none⟩ ∧ w.heap.size ≤ B ∧ B < wx.heap.size ∧ wx.cell? ⟨B, i, none⟩ = some (.int .i64 (lsum (n.take i)))) ∧ TabAt wx g b T ∧ Below w.heap.size w wx
theorem TabAt.below {w w' : World} {g b : Nat} {T : List (List (List UInt8) × Nat)} (h : TabAt w g b T) (hb : Below w.heap.size w w') : TabAt w' g b T := by
  obtain ⟨h1, ⟨f, h2, h3⟩, h4⟩ := h
  exact ⟨h1.below hb h1.lt, ⟨f, h2.kept (grown_of_below hb none) (by simp), h3⟩, h4⟩

theorem putRet_mk {g b : Nat} {out s : List UInt8} {T T' : List (List (List UInt8) × Nat)} {w w' : World} (ho : out = s) (hT : T = T') (h : TabAt w' g b T) (hg : w.grownBy w' (some b)) : PutRet g b s T' w (.returned (.tuple #[.string (bs out), .int .i64 0])) w' := by
  subst ho hT; exact ⟨rfl, h, hg⟩
theorem putMid_mk {g b k c1 : Nat} {T : List (List (List UInt8) × Nat)} {n : List (List UInt8)} {at_ : Int} {w w1 wx : World} {A1 : Option Addr} {s : List UInt8} (hk : k ≤ n.length) (hp : pgo T at_ [] n = (s, rowsK at_ 0 n k))
    (HN : Hid (∀ j, j < k → look T (n.drop j) = none)) (ho : w1.ownsRow w.heap.size 3 1 (.slice A1 n.length c1) n.length (ints (begs n n.length))) (hT : TabAt w1 g b T) (hB : Below w.heap.size w w1) (hx : Below w1.heap.size w1 wx) :
    PutMid g b T n at_ w (.slice A1 k c1) (.string (bs s)) wx := by
  refine ⟨k, c1, A1, hk, rfl, by rw [hp], by rw [hp], HN.out, ?_, hT.below hx, below_then hB hB.size hx⟩
  intro i hi
  rcases ho.2 with ⟨_, h0⟩ | ⟨B, cap, cur, hv, hBb, hh, _⟩
  · omega
  · injection hv with h1 h2 h3
    subst h1 h3
    have hlt : B < w1.heap.size := (ho.lt B rfl).2
    refine ⟨B, rfl, hBb, Nat.lt_of_lt_of_le hlt hx.size, (hx.cell hlt).trans ?_⟩
    rw [ho.cellAt i (by omega)]
    simp [ints, begs, show i < n.length by omega]
theorem tab_row {wr w' : World} {g b x : Nat} {T : List (List (List UInt8) × Nat)} {n : List (List UInt8)} {f : List UInt8 → Option Nat} {key : List UInt8} (hTb : Blk wr g 108 [.map (some b)]) (hne : b ≠ g)
    (hM : MapOf w' b (T.length + 1) (fun k => if k = key then some x else f k)) (hf : ∀ m, GoodN m → f (encN m) = look T m) (hlow : ∀ r ∈ T, r.2 < 16384) (hkey : key = encN n) (hn : GoodN n) (hl : look T n = none) (hx : x < 16384) (hg : wr.drew.grownBy w' (some b)) :
    TabAt w' g b (T ++ [(n, x)]) := by
  refine ⟨(Blk.drew hTb).grown hg (fun e => hne (by injection e with e; exact e.symm)), ⟨_, by simpa using hM, fun m hm => ?_⟩, ?_⟩
  · rw [look_snoc hl m]
    by_cases e : m = n
    · subst e; rw [if_pos rfl, if_pos hkey.symm]
    · rw [if_neg e, if_neg (fun h => e (encN_inj m n hm hn (h.trans hkey)))]
      exact hf m hm
  · intro r hr
    rcases List.mem_append.1 hr with h | h
    · exact hlow r h
    · rw [List.mem_singleton] at h; rw [h]; exact hx
set_option maxHeartbeats 4000000 in
theorem put_tab (g b : Nat) (T : List (List (List UInt8) × Nat)) (A : Option Addr) (c : Nat) (n : List (List UInt8)) (at_ : Int) (w : World) (hT : TabAt w g b T) (hA : TxtR w A n) (hm : n.length ≤ 281474976710656) (hc : checkN n = 0) (hTl : T.length ≤ 1000000) :
    Calls Try.prog 24 #[.pointer (some ⟨g, 0, none⟩), .slice A n.length c, .int .i64 at_] w (PutRet g b (pgo T at_ [] n).1 (T ++ (pgo T at_ [] n).2) w) := by
  have C := dcheck_any A c n w hA hm
  obtain ⟨hg, hs⟩ := checkN_ok hc
  have hs' : lsum n ≤ 254 := by omega
  have O := octets_any A c n w hA hg hs'
  rw [hc] at C
  have hl : (encN n).length ≤ 254 := by rw [encN_length]; exact hs'
  have hnl : n.length ≤ 254 := Nat.le_trans (lsum_ge n) hs'
  have GG := Lib.hid (show GoodN n from hg)
  clear hc hg
  go_enter Try.func24, Try.ntmps24
  go_wp2_with fail
  refine C.mono ?_
  rintro _ w1 ⟨rfl, rfl⟩
  go_wp2_with fail
  refine O.mono ?_
  rintro _ w1 ⟨v, rfl, ho, hB⟩
  have hT1 := hT.below hB
  obtain ⟨A1, c1, hv⟩ := own_form ho
  rw [hv] at ho ⊢
  clear hv C O
  obtain ⟨q, hq⟩ : ∃ q, q = encN n := ⟨_, rfl⟩
  rw [← hq] at hl ⊢
  have HQ := Lib.hid hq
  clear hq
  go_upto_block 0 with fail
  go_cut [10, 11] (fun bg out wx => PutMid g b T n at_ w bg out wx)
  case first =>
    obtain ⟨hTb, ⟨f, hM, hf⟩, hlow⟩ := hT1
    have tc := hTb.cell_ 0 rfl
    have HF := Lib.hid hf
    have HLOW := Lib.hid hlow
    clear hf hlow
    go_wp2_with fail
    go_loopg [10, 11, 36] n.length (fun kk bg out i wr => ∃ k : Nat, k ≤ n.length ∧ kk = n.length - k ∧ i = .int .i64 k ∧ bg = .slice A1 n.length c1 ∧ out = .string (bs (q ++ [0])) ∧ Hid (∀ j, j < k → look T (n.drop j) = none) ∧ ∃ d, wr = w1.drewN d)
    case atStart => exact ⟨0, Nat.zero_le _, rfl, rfl, rfl, rfl, Lib.hid (fun j hj => by omega), 0, rfl⟩
    case round =>
      obtain ⟨k, hk, hgk, rfl, rfl, rfl, HN, d, rfl⟩ := hrel
      have HGK := Lib.hid hgk
      clear hgk
      by_cases hlt : k < n.length
      · have hlt' : (k : Int) < n.length := by omega
        obtain ⟨B, hA1⟩ : ∃ B, A1 = some ⟨B, 0, none⟩ := by
          rcases ho.2 with ⟨_, h0⟩ | ⟨B, cap, cur, hv, _⟩
          · omega
          · exact ⟨B, by injection hv⟩
        subst hA1
        have hcell := ho.cellAt k (by omega)
        have hbk : (ints (begs n n.length))[k]? = some (.int .i64 (lsum (n.take k) : Int)) := by simp [ints, begs, hlt]
        rw [hbk] at hcell
        have hlk1 := lsum_take_le n k
        have hd1 : q.drop (lsum (n.take k)) = encN (n.drop k) := by rw [HQ.out, encN_drop]
        have HD1 := Lib.hid hd1
        clear hd1 hbk
        obtain ⟨p, hp⟩ : ∃ p, p = lsum (n.take k) := ⟨_, rfl⟩
        rw [← hp] at hcell HD1 hlk1
        have HP := Lib.hid hp
        have hpq : (p : Int) ≤ q.length := by
          have e : q.length = lsum n := by rw [HQ.out, encN_length]
          omega
        clear hp
        have hlook : ∀ d', (Instr.lookup 106 (.map (some b)) (.string (bs (q.drop p))) true).run Try.prog (w1.drewN d') = .ok (.tuple #[.int .i64 ((f (q.drop p)).getD 0 : Nat), .bool (f (q.drop p)).isSome]) (w1.drewN d') := fun d' =>
          (show MapOf (w1.drewN d') b T.length f from hM).look (q.drop p) (by simp only [maxLen, List.length_drop]; omega)
        have hfk : f (q.drop p) = look T (n.drop k) := by rw [HD1.out]; exact HF.out _ (GG.out.drop k)
        cases hlo : look T (n.drop k) with
        | none =>
          rw [hlo] at hfk
          rw [hfk] at hlook
          simp only [Option.getD_none, Option.isSome_none] at hlook
          have HLO := Lib.hid hlo
          clear hlo hfk
          go_wp2_with fail
          go_quiet (fail)
          go_wp2_with fail
          go_roundg (n.length - (k + 1))
          case measure => have := HGK.out; omega
          case rel => exact ⟨k + 1, by omega, rfl, by go_num, rfl, rfl, Lib.hid (fun j hj => by
            by_cases e : j = k
            · subst e; exact HLO.out
            · exact HN.out j (by omega)), _, rfl⟩
        | some q0 =>
          rw [hlo] at hfk
          rw [hfk] at hlook
          simp only [Option.getD_some, Option.isSome_some] at hlook
          have hq0 : q0 < 16384 := HLOW.out _ (look_mem hlo)
          have hhit := pgo_hit T at_ n k q0 hlt HN.out hlo
          have HH := Lib.hid hhit
          have htk : q.take p = encN (n.take k) := by rw [HQ.out, HP.out, encN_take']
          have HTK := Lib.hid htk
          clear hlo hfk hhit htk
          have hq0' : (q0 : Int) < 16384 := by omega
          have hcap : n.length ≤ c1 := by
            rcases ho.2 with ⟨hv, _⟩ | ⟨_, _, _, hv, _, _, hh, _⟩
            · cases hv
            · injection hv with _ _ h3; omega
          go_wp2_with fail
          go_quiet (fail)
          go_wp2_with fail
          have hw1 : IntKind.i64.wrap (49152 + (q0 : Int)) = 49152 + (q0 : Int) := IntWalk.i64_in _ (by omega)
          obtain ⟨W, hW⟩ : ∃ W, W = (w1.drewN d).drewN nq := ⟨_, rfl⟩
          rw [← hW]
          have hBW : Below w1.heap.size w1 W := hW ▸ below_drewN (below_drewN (Below.refl _ _) _) _
          clear hW
          have hpl := putB_length 2 (49152 + (q0 : Int))
          have hadd : ∀ W : World, (Op.stringOp .add (bs (q.take p)) (bs (putB 2 (49152 + (q0 : Int))))).run Try.prog W = .ok (.string (bs (q.take p ++ putB 2 (49152 + (q0 : Int))))) W := fun W => by rw [run_string_add_sum W _ _ (by simp only [bs_size, List.length_take]; omega), bs_app]
          clear hpl
          go_region_held3 (fun w' => Below W.heap.size W w') (first | exact (Below.refl _ _).drew | exact held_step (by assumption) b3)
            ((go_at_call 63; refine (put_any _ _ _).mono ?_; rw [show hw 2 = 2 from rfl]; rintro e w3 ⟨rfl, b3⟩))
          clear hadd
          go_wp2_with fail
          go_meet
          case rel => exact putMid_mk hk (by rw [HTK.out]; exact HH.out) HN ho ⟨hTb, ⟨f, hM, HF.out⟩, HLOW.out⟩ hB (below_then hBW hBW.size (by assumption))
      · obtain rfl : k = n.length := by omega
        have hmiss := Lib.hid (pgo_miss T at_ n HN.out)
        have hlt' : ¬ (n.length : Int) < n.length := by omega
        go_wp2_with fail
        go_meet
        case rel => exact putMid_mk (Nat.le_refl _) (by rw [HQ.out]; exact hmiss.out) HN ho ⟨hTb, ⟨f, hM, HF.out⟩, HLOW.out⟩ hB (below_drewN (Below.refl _ _) _)
  case rest =>
    have hbw : b < w.heap.size := hT.2.1.elim fun f h => h.1.lt
    obtain ⟨k, c2, A2, hk2, rfl, rfl, hrows, hnone, hcells, hT2, hB2⟩ := hcut
    have HR := Lib.hid hrows
    have HN := Lib.hid hnone
    have HCE := Lib.hid hcells
    clear hrows hnone hcells ho hT1 hB hT
    obtain ⟨out, ho⟩ : ∃ out, out = (pgo T at_ [] n).1 := ⟨_, rfl⟩
    rw [← ho]
    have HO := Lib.hid ho
    clear ho
    by_cases hat : at_ < 0 ∨ 16384 ≤ at_
    · have hrn := rowsK_none at_ 0 n k hat
      have HRN := Lib.hid hrn
      clear hrn
      have hB3 := grown_of_below hB2 (some b)
      rcases hat with h | h
      · have d1 : decide (at_ < 0) = true := decide_eq_true h
        go_wp2_with fail
        go_ret2
        exact putRet_mk HO.out (by rw [HR.out, HRN.out, List.append_nil]) hT2 hB3
      · have h0 : 0 ≤ at_ := by omega
        have d1 : decide (at_ < 0) = false := decide_eq_false (by omega)
        go_wp2_with fail
        go_ret2
        exact putRet_mk HO.out (by rw [HR.out, HRN.out, List.append_nil]) hT2 hB3
    · have h0 : 0 ≤ at_ := by omega
      have h1 : at_ < 16384 := by omega
      have d1 : decide (at_ < 0) = false := decide_eq_false (by omega)
      have d2 : decide (16384 ≤ at_) = false := decide_eq_false (by omega)
      have tc := hT2.1.cell_ 0 rfl
      have hem : ∀ W : World, (binOp .eql 106 (.map (some b)) (.map none)).run Try.prog W = .ok (.bool false) W := fun W => by rw [run_eql_map_nil W 106 _ _ _ Try.underlying106]; rfl
      clear hat
      go_wp2_with fail
      go_loopg [82] k (fun kk i wr => ∃ j : Nat, j ≤ k ∧ kk = k - j ∧ i = .int .i64 j ∧ TabAt wr g b (T ++ rowsK at_ 0 n j) ∧ wc.grownBy wr (some b))
      case atStart => exact ⟨0, Nat.zero_le _, rfl, rfl, by simpa [rowsK] using hT2, World.grownBy.refl _ _⟩
      case round =>
        obtain ⟨j, hj, hgk, rfl, hTj, hgr⟩ := hrel
        have HGK := Lib.hid hgk
        clear hgk tc hT2
        by_cases hlt : j < k
        · have hlt' : (j : Int) < k := by omega
          obtain ⟨B, hA2, hBw, hBx, hcell0⟩ := HCE.out j hlt
          subst hA2
          have hcell := (grown_cell hgr ⟨B, j, none⟩ hBx (by simp; omega)).trans hcell0
          have hlk1 := lsum_take_le n j
          obtain ⟨p, hp⟩ : ∃ p, p = lsum (n.take j) := ⟨_, rfl⟩
          rw [← hp] at hcell hlk1
          have HP := Lib.hid hp
          have hqe : q.length = lsum n := by rw [HQ.out, encN_length]
          have hpq : (p : Int) ≤ q.length := by omega
          have hd1 : q.drop p = encN (n.drop j) := by rw [HQ.out, HP.out, encN_drop]
          have HD1 := Lib.hid hd1
          have HL := Lib.hid (look_rows (at_ := at_) (show j < n.length by omega) (HN.out j hlt))
          clear hp hqe hd1 hcell0
          obtain ⟨hTb, ⟨f, hM, hf⟩, hlow⟩ := hTj
          have HF := Lib.hid hf
          have HLOW := Lib.hid hlow
          have tc := hTb.cell_ 0 rfl
          clear hf hlow
          by_cases hlo : at_ + p < 16384
          · have hx : ((at_.toNat + p : Nat) : Int) = at_ + p := by omega
            obtain ⟨w', hrun, hM', hg'⟩ := (show MapOf wr.drew b _ f from hM).store (q.drop p) (by simp only [maxLen, List.length_drop]; omega) (at_.toNat + p) (by omega) (by have := rowsK_length at_ 0 n j; simp only [maxLen, List.length_append]; omega)
            rw [hx] at hrun
            have hw1 : IntKind.i64.wrap (at_ + (p : Int)) = at_ + (p : Int) := IntWalk.i64_in _ (by omega)
            have HX := Lib.hid hx
            clear hx
            have hRS : rowsK at_ 0 n (j + 1) = rowsK at_ 0 n j ++ [(n.drop j, at_.toNat + p)] := by
              have e : (at_ + ((0 + p : Nat) : Int)).toNat = at_.toNat + p := by omega
              rw [rowsK_succ, ← HP.out, e, if_pos ((low_iff _ _).2 ⟨h0, h1, by simpa using hlo⟩)]
            have hTN : TabAt w' g b (T ++ rowsK at_ 0 n (j + 1)) := by
              rw [hRS, ← List.append_assoc]
              exact tab_row hTb (hM.ne_blk hTb) hM' HF.out HLOW.out HD1.out (GG.out.drop j) HL.out (by omega) hg'
            have hgr2 : wc.grownBy w' (some b) := grown_trans (grown_drew hgr) hg' (.inl rfl)
            clear hRS hM' hg'
            go_wp2_with fail
            go_region
            go_wp2_with fail
            go_roundg (k - (j + 1))
            case measure => have := HGK.out; omega
            case rel => exact ⟨j + 1, by omega, rfl, by go_num, hTN, hgr2⟩
          · have hlo' : 16384 ≤ at_ + p := by omega
            have hRS : rowsK at_ 0 n (j + 1) = rowsK at_ 0 n j := by
              rw [rowsK_succ, ← HP.out, if_neg (by rw [low_iff]; simp; omega), List.append_nil]
            have hTN : TabAt wr g b (T ++ rowsK at_ 0 n (j + 1)) := by
              rw [hRS]
              exact ⟨hTb, ⟨f, hM, HF.out⟩, HLOW.out⟩
            clear hRS
            go_wp2_with fail
            go_roundg (k - (j + 1))
            case measure => have := HGK.out; omega
            case rel => exact ⟨j + 1, by omega, rfl, by go_num, hTN, hgr⟩
        · obtain rfl : j = k := by omega
          have hlt' : ¬ (j : Int) < j := by omega
          go_wp2_with fail
          go_ret2
          exact putRet_mk HO.out (by rw [HR.out]) hTj (grown_trans (grown_of_below hB2 (some b)) hgr (.inl rfl))
end Go.Proofs.Ytlmgdogblbigpaa
