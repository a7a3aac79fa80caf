/-
  Layer 5 (domain) and its reference, as far as the wire wants them: sizes and checks of names; Few, Exact.
-/
import Derived.Test.YtkcbffldncmbcaaGreatDoorGAq
import Derived.Lib.AppendStr
import Derived.Deep.MidRow
namespace Go.Proofs.YtkcbffldncmbcaaGreatDoor
open _root_.Go.Proofs.Tryz
open Go.RowKit
set_option maxRecDepth 100000
set_option linter.unusedVariables false
theorem few_any (A : Option Addr) (c : Nat) (n : List (List UInt8)) (w : World) (hA : TxtR w A n) (hm : n.length ≤ 281474976710656) (hl : ∀ l ∈ n, l.length ≤ 281474976710656) :
  Calls prog 36 #[.slice A n.length c] w (Ret (.bool (decide (lsum n ≤ 400))) w) := by
 have HL := Hh hl
 clear hl
 go_enter func36, ntmps36
 go_wp2_with fail
 go_loop [3, 4] (fun z i => ∃ k : Nat, k ≤ n.length ∧ i = .int .i64 k ∧ z = .int .i64 (lsum (n.take k)) ∧ lsum (n.take k) ≤ 400) (fun _ i => n.length - (intOf i).toNat)
 case atStart => exact ⟨0, Nat.zero_le _, rfl, rfl, by simp [lsum]⟩
 case round =>
  obtain ⟨k, hk, rfl, rfl, hb⟩ := hrel
  by_cases hlt : k < n.length
  ·
   have hlt' : (k : Int) < n.length := by omega
   obtain ⟨b, off, rfl, _, xa⟩ := hA (by omega)
   have c1 := xa k hlt
   have S := Hh (lsum_take n k hlt)
   have hle := HL.out n[k] (List.getElem_mem hlt)
   clear xa
   by_cases hbig : lsum (n.take k) + (n[k].length + 1) ≤ 400
   ·
    have hb' : (lsum (n.take k) : Int) + n[k].length + 1 ≤ 400 := by omega
    go_wp2_with fail
    go_round
    case rel => exact ⟨k + 1, by omega, by go_num, by rw [S.out]; go_num, by rw [S.out]; exact hbig⟩
    case measure => simp [intOf]; omega
   ·
    have hb' : 400 < (lsum (n.take k) : Int) + n[k].length + 1 := by omega
    have hno : decide (lsum n ≤ 400) = false := by
     have := lsum_take_le n (k + 1)
     rw [S.out] at this
     exact decide_eq_false (by omega)
    have R := Hh hno
    clear hno
    go_wp2_with fail
    go_ret
    exact Ret.mk (ret_bool R.out.symm) rfl
  ·
   have hlt' : ¬ (k : Int) < n.length := by omega
   have R : decide (lsum n ≤ 400) = true := by
    rw [List.take_of_length_le (by omega)] at hb
    exact decide_eq_true hb
   have RR := Hh R
   clear R
   go_wp2_with fail
   go_ret
   exact Ret.mk (ret_bool RR.out.symm) rfl
theorem own_base {w : World} {B : Nat} {e : TypeId} {size n : Nat} {v : Value} {xs : List Value} (h : w.ownsRow B e size v n xs) : ∀ k, v.ownBlock = some k → B ≤ k := fun k hk => (h.lt k hk).1
theorem own_below {w w' : World} {B : Nat} {e : TypeId} {s n : Nat} {v : Value} {xs : List Value} (h : w.ownsRow B e s v n xs) (hb : Below w.heap.size w w') : w'.ownsRow B e s v n xs := by
 refine World.ownsRow.kept h (grown_of_below hb none) ?_
 cases hv : v.ownBlock with
 | none => exact .inl rfl
 | some g => exact .inr (by simp)
theorem own_form {w : World} {B : Nat} {e : TypeId} {s n : Nat} {v : Value} {xs : List Value} (h : w.ownsRow B e s v n xs) : ∃ A c, v = .slice A n c := by
 rcases h.2 with ⟨rfl, rfl⟩ | ⟨g', cap, cur, rfl, _⟩
 ·
  exact ⟨none, 0, rfl⟩
 ·
  exact ⟨_, cap, rfl⟩
theorem below_own {B : Nat} {w0 w w' : World} {e : TypeId} {s n : Nat} {v : Value} {xs : List Value} (hb : Below B w0 w) (hB : B ≤ w.heap.size) (h : w.ownsRow B e s v n xs) (hg : w.grownBy w' v.ownBlock) : Below B w0 w' := hb.grown hg hB (own_base h)
theorem wpList_appB {P : Program} (w : World) {ops : Array Oper} {rest : List Oper} {o : Oper} {a : Act} {Q : Exit → Act → World → Prop} (hgd : o.guard = none) (s x : Operand) (t : TypeId)
  (ho : o.op = .call { callee := .builtin .append, args := #[s, x], argTypes := #[t, t] })
  (e : TypeId) (z : Value) (size bytes : Nat) (ht : P.underlying t = some (.slice e)) (hi : (P.info? e).map (fun i => (i.zero, i.size, i.bytes)) = some (some z, size, bytes)) (hzs : z.cells.size = size) (hsz : 0 < size)
  (B : Nat) (v : Value) (n : Nat) (xs : List Value) (hs : a.eval s = v) (hown : w.ownsRow B e size v n xs) (hB : B ≤ w.heap.size)
  (ad : Addr) (m c : Nat) (news : List Value) (hx : a.eval x = .slice (some ad) m c) (hl : news.length = m * size) (hnews : ∀ j u, news[j]? = some u → w.cell? (ad.add j) = some u) (h1 : ∀ u ∈ news, u.oneCell' = true)
  (hm : 0 < m) (h63 : n + m ≤ maxLen) (hbytes : (n + m) * bytes ≤ 140737488355328)
  (h : ∀ g cap w', w'.ownsRow B e size (.slice (some ⟨g, 0, none⟩) (n + m) cap) (n + m) (xs ++ news) → w.grownBy w' v.ownBlock → g < w'.heap.size → wpList P ops Q rest (a.put o.dst (.slice (some ⟨g, 0, none⟩) (n + m) cap)) w') :
  wpList P ops Q (o :: rest) a w := by
 obtain ⟨i, hi, hz, hsize, hby⟩ := info_parts hi
 refine wpList_append_own_at w hgd s x t ho B e i z size bytes ht hi hz hsize hby hzs hsz v n xs hs hown ad m c news hx hl hnews h1 h63 hbytes hB ?_
 intro v' w' hown' hg _ hat
 obtain ⟨g, cap, rfl⟩ : ∃ g cap, v' = .slice (some ⟨g, 0, none⟩) (n + m) cap := by
  rcases hown'.2 with ⟨_, h0⟩ | ⟨g, cap, _, hv, _⟩
  ·
   omega
  ·
   exact ⟨g, cap, hv⟩
 exact h g cap w' hown' hg (hown'.lt g rfl).2
theorem strCells_bs (l : List UInt8) : Lib.strCells (bs l) = octs l := by
 simp [Lib.strCells, octs, bs]
theorem Blk.range {w : World} {g : Nat} {t : TypeId} {L : List Value} (h : Blk w g t L) (o n : Nat) (hn : o + n ≤ L.length) : w.rangeAt g o ((L.drop o).take n) := by
 intro j v hv
 rw [h.cell (o + j)]
 obtain ⟨hj, he⟩ := List.getElem?_eq_some_iff.1 hv
 have hj' : j < n := by simp at hj; omega
 rw [List.getElem?_take_of_lt hj'] at hv
 rw [List.getElem?_drop] at hv
 exact hv
theorem Blk.there {w : World} {g : Nat} {t : TypeId} {L : List Value} (h : Blk w g t L) (o n : Nat) (hn : o + n ≤ L.length) : w.there g o n := by
 intro j hj
 refine ⟨?_, h.frozen _⟩
 rw [h.cell (o + j), List.getElem?_eq_getElem (by omega)]; rfl
theorem Blk.setCells {w : World} {g : Nat} {t : TypeId} : ∀ (vs : List Value) (L : List Value) (o : Nat) {w : World}, Blk w g t L → o + vs.length ≤ L.length → Blk (w.setCells g o vs) g t (L.take o ++ vs ++ L.drop (o + vs.length))
 | [], L, o, w, h, _ => by simpa [World.setCells] using h
 | v :: vs, L, o, w, h, hl => by
  rw [World.setCells]
  have h1 := Blk.setCells (w := w) (g := g) (t := t) vs (L.set o v) (o + 1) (h.set o v) (by simp at hl ⊢; omega)
  have hol : o < L.length := by simp at hl; omega
  have e : (L.set o v).take (o + 1) ++ vs ++ (L.set o v).drop (o + 1 + vs.length) = L.take o ++ v :: vs ++ L.drop (o + (v :: vs).length) := by
   rw [List.take_succ_eq_append_getElem (by simpa using hol)]
   have a1 : (L.set o v).take o = L.take o := by rw [List.take_set]; exact List.set_eq_of_length_le (by simp; omega)
   have a2 : (L.set o v).drop (o + 1 + vs.length) = L.drop (o + 1 + vs.length) := List.drop_set_of_lt (by omega)
   rw [a1, a2]
   simp [Nat.add_assoc, Nat.add_comm 1]
  rw [e] at h1
  exact h1
theorem setCells_size : ∀ (vs : List Value) (w : World) (g o : Nat), (w.setCells g o vs).heap.size = w.heap.size
 | [], _, _, _ => rfl
 | v :: vs, w, g, o => by rw [World.setCells, setCells_size vs]; simp [World.setCell]
theorem setCells_grown : ∀ (vs : List Value) {a w : World} {g o : Nat}, a.grownBy w (some g) → a.grownBy (w.setCells g o vs) (some g)
 | [], a, w, g, o, h => h
 | v :: vs, a, w, g, o, h => by rw [World.setCells]; exact setCells_grown vs (grown_set h o v)
theorem at_op {P : Program} {ops : Array Oper} {rest : List Oper} {o : Oper} {a : Act} {w : World} {Q : Exit → Act → World → Prop} (p : Op) (_ : o.op = p) (h : wpList P ops Q (o :: rest) a w) : wpList P ops Q (o :: rest) a w := h
theorem wpList_ldB {P : Program} {ops : Array Oper} {rest : List Oper} {op : Oper} {a : Act} {w : World} {Q : Exit → Act → World → Prop} (hgd : op.guard = none) (ty : TypeId) (x : Operand) (ho : op.op = .load ty x)
  (g o : Nat) (hx : a.eval x = .pointer (some ⟨g, o, none⟩)) {t : TypeId} {L : List Value} (hb : Blk w g t L) (n : Nat) (hn : o + n ≤ L.length) (d : TypeDesc)
  (hu : P.underlying ty = some d) (hd : d.isRow = true) (hi : (P.info? ty).map (·.size) = some n) (sub : List Value) (hsub : (L.drop o).take n = sub)
  (h : wpList P ops Q rest (a.put op.dst (.agg sub.toArray)) w) : wpList P ops Q (op :: rest) a w := by
 have hl : sub.length = n := by rw [← hsub]; simp; omega
 refine wpList_load_mid hgd ty x ho g o hx sub d (hsub ▸ hb.range o n hn) hu hd (by rw [hl]; exact hi) h
theorem wpList_stB {P : Program} {ops : Array Oper} {rest : List Oper} {op : Oper} {a : Act} {w : World} {Q : Exit → Act → World → Prop} (hgd : op.guard = none) (ty : TypeId) (x y : Operand) (ho : op.op = .store ty x y)
  (g o : Nat) (hx : a.eval x = .pointer (some ⟨g, o, none⟩)) (sub : List Value) (hy : a.eval y = .agg sub.toArray) {t : TypeId} {L : List Value} (hb : Blk w g t L) (hn : o + sub.length ≤ L.length)
  (hi : (P.info? ty).map (·.size) = some sub.length) (h1 : ∀ v ∈ sub, v.oneCell' = true)
  (h : ∀ w', Blk w' g t (L.take o ++ sub ++ L.drop (o + sub.length)) → w.grownBy w' (some g) → w'.heap.size = w.heap.size → wpList P ops Q rest (a.put op.dst undef) w') : wpList P ops Q (op :: rest) a w := by
 refine wpList_store_mid hgd ty x y ho g o sub.toArray hx hy (by simpa using hb.there o sub.length hn) (by simpa using hi) (all_oneCell_toArray h1) ?_
 exact h _ (Blk.setCells (w := w) sub L o hb hn) (setCells_grown sub (World.grownBy.refl _ _)) (setCells_size sub w g o)
theorem Blk.loads {P : Program} {w : World} {g : Nat} {t : TypeId} {L : List Value} (hb : Blk w g t L) (ty : TypeId) (o n : Nat) (hn : o + n ≤ L.length) (d : TypeDesc) (hu : P.underlying ty = some d) (hd : d.isRow = true) (hi : (P.info? ty).map (·.size) = some n) (sub : List Value) (hsub : (L.drop o).take n = sub) :
  (Instr.loadAt ty (.pointer (some ⟨g, o, none⟩))).run P w = .ok (.agg sub.toArray) w := by
 have hl : sub.length = n := by rw [← hsub]; simp; omega
 exact run_loadAt_mid w g o ty sub d (hsub ▸ hb.range o n hn) hu hd (by rw [hl]; exact hi)
theorem ret_cell {P : Program} {fn : Func} {R : Ending → World → Prop} {a : Act} {w : World} {p : Tmp} {ty : TypeId} (hr : fn.results = #[.cell p ty]) (g : Nat) (hp : a.tmps.getD p undef = .pointer (some ⟨g, 0, none⟩)) {t : TypeId} {L : List Value} (hb : Blk w g t L)
  (d : TypeDesc) (hu : P.underlying ty = some d) (hd : d.isRow = true) (hi : (P.info? ty).map (·.size) = some L.length) (hdf : a.defers = []) (h : R (.returned (.agg L.toArray)) w) : bodyPost P fn R .ret a w := by
 refine bodyPost_ret (v := .agg L.toArray) (results_cell_row hr a.tmps w g t L.toArray (0, 0) d hp hb hu ?_ (by simpa using hi)) hdf h
 cases d <;> first | rfl | cases hd
theorem ret_cell_tmp {P : Program} {fn : Func} {R : Ending → World → Prop} {a : Act} {w : World} {p u : Tmp} {ty : TypeId} (hr : fn.results = #[.cell p ty, .tmp u]) (g : Nat) (hp : a.tmps.getD p undef = .pointer (some ⟨g, 0, none⟩)) {t : TypeId} {L : List Value} (hb : Blk w g t L)
  (d : TypeDesc) (hu : P.underlying ty = some d) (hd : d.isRow = true) (hi : (P.info? ty).map (·.size) = some L.length) (hdf : a.defers = []) (v : Value) (hv : a.tmps.getD u undef = v) (h : R (.returned (.tuple #[.agg L.toArray, v])) w) : bodyPost P fn R .ret a w := by
 refine bodyPost_ret (v := .tuple #[.agg L.toArray, v]) ?_ hdf h
 rw [results_cell_tmp hr, hp]
 have hl := run_loadVar_row (P := P) w g t ty L.toArray (0, 0) d hb hu (by cases d <;> first | rfl | cases hd) (by simpa using hi)
 simp [asAddr, hl, hv]
theorem wpList_ldG {P : Program} {ops : Array Oper} {rest : List Oper} {op : Oper} {a : Act} {w : World} {Q : Exit → Act → World → Prop} (ty : TypeId) (x : Operand) (ho : op.op = .load ty x) (hw : Region.wanted op (yielded ops a.tmps) = true)
  (g o : Nat) (hx : a.eval x = .pointer (some ⟨g, o, none⟩)) {t : TypeId} {L : List Value} (hb : Blk w g t L) (n : Nat) (hn : o + n ≤ L.length) (d : TypeDesc)
  (hu : P.underlying ty = some d) (hd : d.isRow = true) (hi : (P.info? ty).map (·.size) = some n) (sub : List Value) (hsub : (L.drop o).take n = sub)
  (h : wpList P ops Q rest (a.put op.dst (.agg sub.toArray)) w) : wpList P ops Q (op :: rest) a w := by
 have hr := hb.loads (P := P) ty o n hn d hu hd hi sub hsub
 unfold wpList
 rw [if_pos hw]
 left
 unfold Oper.wp execOp
 simp only [ho, hx, Sem.run_bind, hr, Result.andThen_ok, Sem.run_pure]
 exact h
section
variable {P : Program} {ops : Array Oper} {C : World → Prop} {Q : Act → Prop} {rest : List Oper} {o : Oper} {a : Act}
theorem wpQuiet_val {v : Value} (hw : Region.wanted o (yielded ops a.tmps) = true) (hv : ∀ w, C w → (execOp a.eval o).run P w = .ok (.value v) w) (h : wpQuiet P ops C Q rest (a.put o.dst v)) : wpQuiet P ops C Q (o :: rest) a := by
 unfold wpQuiet
 rw [if_pos hw]
 refine ⟨v, fun w hC => ?_, h⟩
 unfold Oper.quietAt
 rw [hv w hC]
 exact ⟨rfl, rfl⟩
theorem wpQuiet_ld {v : Value} (ty : TypeId) (x : Operand) (ho : o.op = .load ty x) (p : Addr) (hx : a.eval x = .pointer (some p)) (hw : Region.wanted o (yielded ops a.tmps) = true)
  (hv : ∀ w, C w → (Instr.loadAt ty (.pointer (some p))).run P w = .ok v w) (h : wpQuiet P ops C Q rest (a.put o.dst v)) : wpQuiet P ops C Q (o :: rest) a := by
 refine wpQuiet_val hw (fun w hC => ?_) h
 unfold execOp
 simp only [ho, hx, Sem.run_bind, hv w hC, Result.andThen_ok, Sem.run_pure]
theorem wpQuiet_call {v : Value} (f : FuncId) (vs : Array Value) (hw : Region.wanted o (yielded ops a.tmps) = true) (hr : ∀ w, (execOp a.eval o).run P w = .ok (.enter f vs) w)
  (hc : ∀ w, C w → Calls P f vs w fun e w' => e = .returned v ∧ C w') (h : wpQuiet P ops C Q rest (a.put o.dst v)) : wpQuiet P ops C Q (o :: rest) a := by
 unfold wpQuiet
 rw [if_pos hw]
 refine ⟨v, fun w hC => ?_, h⟩
 unfold Oper.quietAt
 rw [hr w]
 exact ⟨rfl, hc w hC⟩
theorem wp_region_old {id : Nat} {Q' : Exit → Act → World → Prop} {W : World} {l : List Oper} (hm : P.follows .mixedOrders = true) (hB : Region.lexB .any l.toArray = true)
  (h : wpQuiet P l.toArray (fun w' => Below W.heap.size W w') (fun a' => ∀ w', Below W.heap.size W w' → Q' .normal a' w') l a) : (Code.region id l.toArray true).wp P Q' a W :=
 wp_region_quiet (C := fun w' => Below W.heap.size W w') hm hB ((Below.refl _ _).drew) (by simpa using h)
end
theorem RetB.old {P : Program} {f : FuncId} {args : Array Value} {v : Value} {W w : World} (hw : Below W.heap.size W w) (h : Calls P f args w (RetB v w)) : Calls P f args w fun e w' => e = .returned v ∧ Below W.heap.size W w' :=
 h.mono fun _ _ ⟨he, hb⟩ => ⟨he, below_then hw hw.size hb⟩
theorem run_load1 {P : Program} {w : World} {p : Addr} {v : Value} {ty : TypeId} {d : TypeDesc} (hu : P.underlying ty = some d) (hd : d.isRow = false) (hc : w.cell? p = some v) : (Instr.loadAt ty (.pointer (some p))).run P w = .ok v w := by
 have hagg : (isAgg ty).run P w = .ok false w := by
  unfold isAgg
  rw [Sem.run_bind, run_underlying hu w]
  cases d <;> simp_all
 simp only [Instr.loadAt, Instr.sureAddr, Sem.run_bind, Sem.run_pure, Result.andThen_ok, loadVar, hagg]
 simp [hc, go_sem]
set_option linter.unusedSimpArgs false
section
variable {P : Program} {ops : Array Oper} {S : World → Prop} {Q : Exit → Act → World → Prop} {o : Oper} {a : Act} {w : World} {fuel : Nat} {listed : Array Bool}
theorem held_call (i : Nat) (d : Option Tmp) (f : FuncId) (vs : Array Value) (hr : Region.ready .any ops listed = [i]) (hi : ops[i]? = some o) (hd : o.dst = d) (hw : Region.wanted o (yielded ops a.tmps) = true) (he : (execOp a.eval o).run P w = .ok (.enter f vs) w)
  {R : Ending → World → Prop} (hc : Calls P f vs w R) (h : ∀ e w', R e w' → ∃ v, e = .returned v ∧ S w' ∧ wpAnyH P .any ops Q S fuel (listed.setIfInBounds i true) (a.put d v) w') : wpAnyH P .any ops Q S (fuel + 1) listed a w := by
 subst hd
 refine wpAnyH_all hr (by simp) fun j hj => ?_
 rw [List.mem_singleton] at hj
 subst hj
 unfold wpOp
 simp only [hi, hw, if_true]
 left
 unfold Oper.wp
 rw [he]
 simp only [Oper.upon]
 refine hc.mono fun e w' hR => ?_
 obtain ⟨v, rfl, hS, h'⟩ := h e w' hR
 exact ⟨hS, h'⟩
theorem held_run (i : Nat) (d : Option Tmp) (hr : Region.ready .any ops listed = [i]) (hi : ops[i]? = some o) (hd : o.dst = d) (hw : Region.wanted o (yielded ops a.tmps) = true) {v : Value} {w' : World} (he : (execOp a.eval o).run P w = .ok (.value v) w') (hS : S w')
  (h : wpAnyH P .any ops Q S fuel (listed.setIfInBounds i true) (a.put d v) w') : wpAnyH P .any ops Q S (fuel + 1) listed a w := by
 subst hd
 refine wpAnyH_all hr (by simp) fun j hj => ?_
 rw [List.mem_singleton] at hj
 subst hj
 unfold wpOp
 simp only [hi, hw, if_true]
 left
 unfold Oper.wp
 rw [he]
 exact ⟨hS, h⟩
theorem held_skip (i : Nat) (d : Option Tmp) (hr : Region.ready .any ops listed = [i]) (hi : ops[i]? = some o) (hd : o.dst = d) (hw : Region.wanted o (yielded ops a.tmps) = true) {w' : World} (he : (execOp a.eval o).run P w = .ok .skip w') (hS : S w')
  (h : wpAnyH P .any ops Q S fuel (listed.setIfInBounds i true) (a.put d undef) w') : wpAnyH P .any ops Q S (fuel + 1) listed a w := by
 subst hd
 refine wpAnyH_all hr (by simp) fun j hj => ?_
 rw [List.mem_singleton] at hj
 subst hj
 unfold wpOp
 simp only [hi, hw, if_true]
 left
 unfold Oper.wp
 rw [he]
 exact ⟨hS, h⟩
end
theorem run_stC {P : Program} {w : World} {g o : Nat} {ty t : TypeId} {L : List Value} {v : Value} (hb : Blk w g t L) (hn : o < L.length) (hi : (P.info? ty).map (·.size) = some 1) (h1 : v.oneCell' = true) (hv : v.cells = #[v]) :
  (Instr.storeAt ty (.pointer (some ⟨g, o, none⟩)) v).run P w = .ok () (w.setCell ⟨g, o, none⟩ v) := by
 obtain ⟨i, hi1, hi2⟩ := Option.map_eq_some_iff.1 hi
 have hc : w.cell? ⟨g, o, none⟩ = some L[o] := (hb.cell o).trans (List.getElem?_eq_getElem hn)
 have hf := hb.frozen o
 have hst : (store ⟨g, o, none⟩ v).run P w = .ok () (w.setCell ⟨g, o, none⟩ v) := by
  rw [run_store P w _ v _ h1, hc]
  simp [hf]
 have hadd : (⟨g, o, none⟩ : Addr).add 0 = ⟨g, o, none⟩ := by unfold Addr.add; split <;> simp_all
 simp [Instr.storeAt, Instr.sureAddr, storeVar, sizeOf, typeInfo, hi1, hi2, hv, storeCells, hadd, hst]
theorem wpList_stC {P : Program} {ops : Array Oper} {rest : List Oper} {op : Oper} {a : Act} {w : World} {Q : Exit → Act → World → Prop} (hgd : op.guard = none) (ty : TypeId) (x y : Operand) (ho : op.op = .store ty x y)
  (g o : Nat) (hx : a.eval x = .pointer (some ⟨g, o, none⟩)) (v : Value) (hy : a.eval y = v) {t : TypeId} {L : List Value} (hb : Blk w g t L) (hn : o < L.length)
  (hi : (P.info? ty).map (·.size) = some 1) (h1 : v.oneCell' = true) (hv : v.cells = #[v])
  (h : ∀ w', Blk w' g t (L.set o v) → w.grownBy w' (some g) → w'.heap.size = w.heap.size → wpList P ops Q rest (a.put op.dst undef) w') : wpList P ops Q (op :: rest) a w := by
 refine wpList_plain hgd fun K hK => ?_
 have hst := run_stC (P := P) hb hn hi h1 hv
 unfold Oper.wp execOp
 simp only [ho, hx, hy, Sem.run_bind, hst, Result.andThen_ok, Sem.run_pure]
 exact hK _ _ (h _ (hb.set o v) (grown_set (World.grownBy.refl _ _) o v) (by simp [World.setCell]))
theorem wpList_bld {P : Program} {ops : Array Oper} {rest : List Oper} {o : Oper} {a : Act} {w : World} {Q : Exit → Act → World → Prop} (hgd : o.guard = none) (t : TypeId) (parts : Array (Nat × Operand)) (ho : o.op = .build t parts) (vals : Array (Nat × Value)) (hv : parts.map (fun (i, x) => (i, a.eval x)) = vals)
  {v : Value} (hr : (Instr.build t vals).run P w = .ok v w) (h : wpList P ops Q rest (a.put o.dst v) w) : wpList P ops Q (o :: rest) a w := by
 refine wpList_plain hgd fun K hK => ?_
 unfold Oper.wp execOp
 simp only [ho, hv, Sem.run_bind, hr, Result.andThen_ok, Sem.run_pure]
 exact hK _ _ h
theorem intInfo1 : (prog.info? 3).map (·.size) = some 1 := by kernel_rfl
section
variable {P : Program} {ops : Array Oper} {S : World → Prop} {Q : Exit → Act → World → Prop} {K : Act → World → Prop} {o : Oper} {a : Act} {w : World} {fuel : Nat} {listed : Array Bool}
theorem ord_one (i : Nat) (hr : Region.ready .any ops listed = [i]) (h : wpOp P ops Q i (fun a' w' => S w' ∧ wpAnyH P .any ops Q S fuel (listed.setIfInBounds i true) a' w') a w) : wpAnyH P .any ops Q S (fuel + 1) listed a w := by
 refine wpAnyH_all hr (by simp) fun j hj => ?_
 rw [List.mem_singleton] at hj
 subst hj
 exact h
theorem opw_skip (i : Nat) (d : Option Tmp) (hi : ops[i]? = some o) (hd : o.dst = d) (hw : Region.wanted o (yielded ops a.tmps) = true) {w' : World} (he : (execOp a.eval o).run P w = .ok .skip w') (h : K (a.put d undef) w') : wpOp P ops Q i K a w := by
 subst hd
 unfold wpOp
 simp only [hi, hw, if_true]
 left
 unfold Oper.wp
 rw [he]
 exact h
theorem opw_stC (i : Nat) (ty : TypeId) (x y : Operand) (hi : ops[i]? = some o) (hd : o.dst = none) (ho : o.op = .store ty x y) (hw : Region.wanted o (yielded ops a.tmps) = true)
  (g off : Nat) (hx : a.eval x = .pointer (some ⟨g, off, none⟩)) (v : Value) (hy : a.eval y = v) {t : TypeId} {L : List Value} (hb : Blk w g t L) (hn : off < L.length)
  (hinf : (P.info? ty).map (·.size) = some 1) (h1 : v.oneCell' = true) (hv : v.cells = #[v])
  (h : ∀ w', Blk w' g t (L.set off v) → w.grownBy w' (some g) → w'.heap.size = w.heap.size → K (a.put none undef) w') : wpOp P ops Q i K a w := by
 have hst := run_stC (P := P) hb hn hinf h1 hv
 refine opw_skip i none hi hd hw (w' := w.setCell ⟨g, off, none⟩ v) ?_ (h _ (hb.set off v) (grown_set (World.grownBy.refl _ _) off v) (by simp [World.setCell]))
 unfold execOp
 simp only [ho, hx, hy, Sem.run_bind, hst, Result.andThen_ok, Sem.run_pure]
end
end Go.Proofs.YtkcbffldncmbcaaGreatDoor
