/-
  What the reading of an argument says of its cells, kind by kind; and the frame of a law's last step.
-/
import Derived.ProofKit
import Derived.OpenShut
import Derived.ShutString
import Derived.ChangeOld
import Derived.SizedLaws
import Derived.Test.YteimenplbanooaaGreatDoorRADq
namespace Go.Proofs.YteimenplbanooaaGreatDoor
open _root_.Go.Proofs.Tryz
open Go.ChangeShapes Go.WideShapes Go.ChangeAt Go.RowKit
open Go.ChangeMaps (open_string shut_string)
def Seen {H : Type} (enc : TypeId × Value → H) (P : Program) (w : World) (t : TypeId) (cs : List Value) : Prop :=
 ∃ fuel x, DataW.trod enc P w 0 (fun _ => true) true fuel t cs = some x
section
variable {H : Type} {enc : TypeId × Value → H} {P : Program} {w : World} {t : TypeId} {cs : List Value}
theorem Seen.int {k : IntKind} (h : Seen enc P w t cs) (ht : P.underlying t = some (.int k)) : ∃ n, cs = [.int k n] ∧ (Lit.int k n).wf = true := by
 obtain ⟨fuel, x, hf⟩ := h
 obtain ⟨n, hn, _, hw⟩ := DataW.trod_int ht hf
 exact ⟨n, hn, hw⟩
theorem Seen.array {n : Nat} {e : TypeId} (h : Seen enc P w t cs) (ht : P.underlying t = some (.array n e)) :
  cs.length = P.cellsOf t ∧ ∀ i, i < n → Seen enc P w e ((cs.drop (i * P.cellsOf e)).take (P.cellsOf e)) := by
 obtain ⟨fuel, x, hf⟩ := h
 obtain ⟨xs, m, _, _, hl, hx, hi⟩ := DataW.trod_array ht hf
 refine ⟨hl, fun i hin => ?_⟩
 have hlt : i < xs.length := by omega
 exact ⟨m, xs[i], by rw [hi i hin, List.getElem?_eq_getElem hlt]⟩
theorem cell_lt {w : World} {a : Addr} {v : Value} (h : w.cell? a = some v) : a.block < w.heap.size := by
 rcases Nat.lt_or_ge a.block w.heap.size with hlt | hge
 ·
  exact hlt
 ·
  simp [World.cell?, Array.getElem?_eq_none hge] at h
end
theorem own : ownKnob prog.godebug = none := by kernel_rfl
theorem laidOut : laidOutB prog = true := by kernel_rfl
set_option linter.unusedVariables false
def Light {H : Type} (P : Program) (t : TypeId) (d : DataW H) : Prop := ∀ k ∈ d.weights P t, k ≤ reachBytes
theorem mem_weightsEach {H : Type} {P : Program} : ∀ (ts : List TypeId) (ds : List (DataW H)) (i : Nat) (t : TypeId) (d : DataW H), ts[i]? = some t → ds[i]? = some d → ∀ k ∈ d.weights P t, k ∈ DataW.weightsEach P ts ds
 | t' :: ts, d' :: ds, 0, t, d, ht, hd, k, hk => by
  simp at ht hd; subst ht hd
  simp [DataW.weightsEach]; exact .inl hk
 | t' :: ts, d' :: ds, i + 1, t, d, ht, hd, k, hk => by
  simp at ht hd
  simp [DataW.weightsEach]; exact .inr (mem_weightsEach ts ds i t d ht hd k hk)
 | [], _, i, t, d, ht, hd, k, hk => by simp at ht
 | _ :: _, [], i, t, d, ht, hd, k, hk => by simp at hd
theorem mem_weightsAll {H : Type} {P : Program} {e : TypeId} : ∀ (ds : List (DataW H)) (d : DataW H), d ∈ ds → ∀ k ∈ d.weights P e, k ∈ DataW.weightsAll P e ds
 | d' :: ds, d, hd, k, hk => by
  simp only [DataW.weightsAll, List.mem_append]
  rcases List.mem_cons.1 hd with rfl | h
  ·
   exact .inl hk
  ·
   exact .inr (mem_weightsAll ds d h k hk)
theorem light_each {H : Type} {P : Program} {ts : List TypeId} {ds : List (DataW H)} (h : (DataW.weightsEach P ts ds).all (· ≤ reachBytes) = true) {i : Nat} {t : TypeId} {d : DataW H} (ht : ts[i]? = some t) (hd : ds[i]? = some d) : Light P t d := by
 intro k hk
 have := List.all_eq_true.1 h k (mem_weightsEach ts ds i t d ht hd k hk)
 simpa using this
def SeenW {H : Type} (enc : TypeId × Value → H) (P : Program) (w : World) (t : TypeId) (cs : List Value) : Prop :=
 ∃ fuel x, DataW.trod enc P w 0 (fun _ => true) true fuel t cs = some x ∧ Light P t x.1
section
variable {H : Type} {enc : TypeId × Value → H} {P : Program} {w : World} {t : TypeId} {cs : List Value}
theorem SeenW.of {v : Value} {d : DataW H} {p : List MemPlace} (h : DataW.Trod enc P w 0 (fun _ => true) true t v d p) (hl : Light P t d) : SeenW enc P w t v.cells.toList := by
 obtain ⟨fuel, hf⟩ := h
 exact ⟨fuel, _, hf, hl⟩
theorem SeenW.toSeen (h : SeenW enc P w t cs) : Seen enc P w t cs := by
 obtain ⟨fuel, x, hf, _⟩ := h
 exact ⟨fuel, x, hf⟩
theorem SeenW.int {k : IntKind} (h : SeenW enc P w t cs) (ht : P.underlying t = some (.int k)) : ∃ n, cs = [.int k n] ∧ (Lit.int k n).wf = true := h.toSeen.int ht
theorem SeenW.struct {fs : Array Field} (h : SeenW enc P w t cs) (ht : P.underlying t = some (.struct fs)) :
  cs.length = P.cellsOf t ∧ ∀ (i : Nat) (f : Field), fs[i]? = some f → SeenW enc P w f.type ((cs.drop f.offset).take (P.cellsOf f.type)) := by
 obtain ⟨fuel, x, hf, hlt⟩ := h
 obtain ⟨xs, n, _, hxx, hl, hx, hi⟩ := DataW.trod_struct ht hf
 refine ⟨hl, fun i f hif => ?_⟩
 have hlt' : i < xs.length := by rw [hx]; exact (Array.getElem?_eq_some_iff.1 hif).1
 refine ⟨n, xs[i], by rw [hi i f hif, List.getElem?_eq_getElem hlt'], ?_⟩
 intro k hk
 refine hlt k ?_
 rw [hxx]
 simp only [DataW.weights, ht]
 refine mem_weightsEach _ _ i f.type xs[i].1 ?_ ?_ k hk
 ·
  simp [hif]
 ·
  simp [List.getElem?_eq_getElem hlt']
theorem SeenW.array {n : Nat} {e : TypeId} (h : SeenW enc P w t cs) (ht : P.underlying t = some (.array n e)) :
  cs.length = P.cellsOf t ∧ ∀ i, i < n → SeenW enc P w e ((cs.drop (i * P.cellsOf e)).take (P.cellsOf e)) := by
 obtain ⟨fuel, x, hf, hlt⟩ := h
 obtain ⟨xs, m, _, hxx, hl, hx, hi⟩ := DataW.trod_array ht hf
 refine ⟨hl, fun i hin => ?_⟩
 have hlt' : i < xs.length := by omega
 refine ⟨m, xs[i], by rw [hi i hin, List.getElem?_eq_getElem hlt'], ?_⟩
 intro k hk
 refine hlt k ?_
 rw [hxx]
 simp only [DataW.weights, ht]
 refine mem_weightsAll _ xs[i].1 ?_ k hk
 exact List.mem_map.2 ⟨xs[i], List.getElem_mem hlt', rfl⟩
end
def NmR (w : World) (A : Option Addr) (c : Nat) (n : List (List UInt8)) : Prop := TxtR w A n ∧ n.length ≤ c ∧ n.length ≤ 17592186044416 ∧ ∀ l ∈ n, l.length ≤ 140737488355328
theorem NmR.below {w w' : World} {A : Option Addr} {c : Nat} {n : List (List UInt8)} (h : NmR w A c n) (hb : Below w.heap.size w w') : NmR w' A c n := ⟨h.1.below hb, h.2⟩
open Go.RowKit
set_option maxRecDepth 100000
theorem rd_gets {m : List UInt8} {b p : Nat} {n : List (List UInt8)} {e : Nat} (h : Rd m b p n e) : ∀ (size : Nat) (acc : List (List UInt8)) (beh : Option Nat), size + lsum n ≤ 255 → Gets m ⟨p, size, b, beh, acc⟩ (.ok (acc ++ n) (beh.getD e)) := by
 induction h with
 | nil h1 h2 =>
  intro size acc beh _
  rw [List.append_nil]
  exact .ok (gs_zero (by omega) h2.symm)
 | @cons b p l n e h1 h2 h3 h4 h5 h6 _ ih =>
  intro size acc beh hs
  simp only [lsum] at hs
  refine .go (gs_lab (by omega) h2.symm (by omega) h4 (by omega) (by omega)) ?_
  rw [h6]
  have := ih (size + (l.length + 1)) (acc ++ [l]) beh (by omega)
  simpa using this
 | @ptr b p q n e h1 h2 h3 h4 _ ih =>
  intro size acc beh hs
  have hp := gs_ptr (m := m) (at' := p) (size := size) (bound := b) (behind := beh) (acc := acc) (by omega) rfl (by omega) (by omega) rfl (by omega)
  rw [h3] at hp
  refine .go hp ?_
  have := ih size acc (some (beh.getD (p + 2))) hs
  simpa using this
theorem rd_pget {m : List UInt8} {p : Nat} {n : List (List UInt8)} {e : Nat} (h : Rd m p p n e) (hp : p ≤ m.length) (hs : 1 + lsum n ≤ 255) : pget m p = .ok n e := by
 have h1 := rd_gets h 1 [] none hs
 unfold pget
 have ho : outR m p = false := by simp [outR]; omega
 rw [ho, if_neg (by simp), Int.toNat_natCast]
 exact gets_fun (gets_at m p) h1
open Go.RowKit Go.Maps
def putZ (n : List (List UInt8)) : List UInt8 := if checkN n = 0 then encZ n else []
theorem putNil_any (A : Option Addr) (c : Nat) (n : List (List UInt8)) (at_ : Int) (w : World) (hA : NmR w A c n) :
  Calls prog 340 #[.pointer none, .slice A n.length c, .int .i64 at_] w (RetB (.tuple #[.string (bs (putZ n)), .int .i64 (checkN n)]) w) := by
 obtain ⟨h1, h2, h3, h4⟩ := hA
 by_cases hc : checkN n = 0
 ·
  unfold putZ; rw [if_pos hc]
  have := put_nil A c n at_ w h1 (by omega) hc
  rwa [hc]
 ·
  unfold putZ; rw [if_neg hc]
  exact (put_bad none A c n at_ w h1 (by omega) hc).mono fun _ _ h => h.toB
def PutAny (g b : Nat) (T : List (List (List UInt8) × Nat)) (n : List (List UInt8)) (at_ : Int) (w : World) (e : Ending) (w' : World) : Prop :=
 e = .returned (.tuple #[.string (bs (putS T at_ n)), .int .i64 (checkN n)]) ∧ TabAt w' g b (putT T at_ n) ∧ w.grownBy w' (some b)
theorem putTab_any (g b : Nat) (T : List (List (List UInt8) × Nat)) (A : Option Addr) (c : Nat) (n : List (List UInt8)) (at_ : Int) (w : World) (hT : TabAt w g b T) (hA : NmR w A c n) (hTl : T.length ≤ 900000) :
  Calls prog 340 #[.pointer (some ⟨g, 0, none⟩), .slice A n.length c, .int .i64 at_] w (PutAny g b T n at_ w) := by
 obtain ⟨h1, h2, h3, h4⟩ := hA
 by_cases hc : checkN n = 0
 ·
  refine (put_tab g b T A c n at_ w hT h1 (by omega) hc (by omega)).mono ?_
  rintro e w' ⟨rfl, h5, h6⟩
  unfold PutAny putS putT
  rw [if_pos hc, if_pos hc, hc]
  exact ⟨rfl, h5, h6⟩
 ·
  refine (put_bad (some ⟨g, 0, none⟩) A c n at_ w h1 (by omega) hc).mono ?_
  rintro e w' ⟨rfl, rfl⟩
  unfold PutAny putS putT
  rw [if_neg hc, if_neg hc]
  exact ⟨rfl, hT, World.grownBy.refl _ _⟩
theorem putT_length (T : List (List (List UInt8) × Nat)) (at_ : Int) (n : List (List UInt8)) : (putT T at_ n).length ≤ T.length + 254 := by
 unfold putT
 by_cases hc : checkN n = 0
 ·
  rw [if_pos hc, List.length_append]
  have hn : n.length ≤ 254 := by have := (checkN_ok hc).2; have := lsum_ge n; omega
  have : ∀ (n : List (List UInt8)) (pre : List UInt8), (pgo T at_ pre n).2.length ≤ n.length := by
   intro n
   induction n with
   | nil => intro pre; simp [pgo]
   | cons l n ih =>
    intro pre
    cases hk : look T (l :: n) with
    | some q => rw [pgo_some hk]; simp
    | none =>
     rw [pgo_no hk]
     have := ih (pre ++ encL l)
     simp only [List.length_append, List.length_cons]
     split <;> simp <;> omega
  have := this n []
  omega
 ·
  rw [if_neg hc]; omega
def NmsR (w : World) (A : Option Addr) (ls : List (List (List UInt8))) : Prop := 0 < ls.length → ∃ b off, A = some ⟨b, off, none⟩ ∧ b < w.heap.size ∧ ∀ i (hi : i < ls.length), ∃ Ai ci, w.cell? ⟨b, off + i, none⟩ = some (.slice Ai ls[i].length ci) ∧ NmR w Ai ci ls[i]
def IntsR (w : World) (A : Option Addr) (l : List Int) : Prop := 0 < l.length → ∃ b off, A = some ⟨b, off, none⟩ ∧ b < w.heap.size ∧ ∀ i (hi : i < l.length), w.cell? ⟨b, off + i, none⟩ = some (.int .i64 l[i])
end Go.Proofs.YteimenplbanooaaGreatDoor
