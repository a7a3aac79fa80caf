/-
  Layer 5 (domain) and its reference, as far as the wire wants them: sizes and checks of names; Few, Exact.
-/
import Derived.Test.YteimenplbanooaaGreatDoorGAq
import Derived.Lib.AppendStr
import Derived.Deep.MidRow
namespace Go.Proofs.YteimenplbanooaaGreatDoor
open _root_.Go.Proofs.Tryz
open Go.RowKit
set_option maxRecDepth 100000
set_option linter.unusedVariables false
theorem lsum_bound (n : List (List UInt8)) (h : ∀ l ∈ n, l.length ≤ 63) : lsum n ≤ 64 * n.length := by
 induction n with
 | nil => simp [lsum]
 | cons l n ih =>
  have h1 := h l (List.mem_cons_self ..)
  have h2 := ih (fun x hx => h x (List.mem_cons_of_mem _ hx))
  simp [lsum]; omega
theorem dsize_any (A : Option Addr) (c : Nat) (n : List (List UInt8)) (w : World) (hA : TxtR w A n) (hm : n.length ≤ 281474976710656) (hs : lsum n ≤ 4611686018427387904) :
  Calls prog 92 #[.slice A n.length c] w (Ret (.int .i64 (1 + lsum n)) w) := by
 go_enter func92, ntmps92
 go_wp2_with fail
 go_loop [3, 8] (fun z i => ∃ k : Nat, k ≤ n.length ∧ i = .int .i64 k ∧ z = .int .i64 (1 + lsum (n.take k))) (fun _ i => n.length - (intOf i).toNat)
 case atStart => exact ⟨0, Nat.zero_le _, rfl, rfl⟩
 case round =>
  obtain ⟨k, hk, rfl, rfl⟩ := hrel
  have hb := lsum_take_le n k
  by_cases hlt : k < n.length
  ·
   have hlt' : (k : Int) < n.length := by omega
   obtain ⟨b, off, rfl, _, xa⟩ := hA (by omega)
   have c1 := xa k hlt
   have S := Hh (lsum_take n k hlt)
   have hb2 := lsum_take_le n (k + 1)
   rw [S.out] at hb2
   clear xa
   go_wp2_with fail
   go_round
   case rel => exact ⟨k + 1, by omega, by go_num, by rw [S.out]; go_num⟩
   case measure => simp [intOf]; omega
  ·
   have hlt' : ¬ (k : Int) < n.length := by omega
   go_wp2_with fail
   go_ret
   exact Ret.mk (ret_int (by rw [List.take_of_length_le (by omega)])) rfl
theorem checkN_bad (n : List (List UInt8)) (k : Nat) (h : k < n.length) (hb : badL n[k] = true) : checkN n = 7 := by
 unfold checkN
 rw [if_pos (List.any_eq_true.2 ⟨n[k], List.getElem_mem h, hb⟩)]
theorem checkN_rest (n : List (List UInt8)) (h : ∀ j (hj : j < n.length), badL n[j] = false) : checkN n = if 255 < 1 + lsum n then 3 else 0 := by
 unfold checkN
 rw [if_neg]
 intro h'
 obtain ⟨l, hl, hb⟩ := List.any_eq_true.1 h'
 obtain ⟨j, hj, rfl⟩ := List.getElem_of_mem hl
 rw [h j hj] at hb; cases hb
theorem good_lens {n : List (List UInt8)} (h : ∀ j (hj : j < n.length), badL n[j] = false) : ∀ l ∈ n, l.length ≤ 63 := by
 intro l hl
 obtain ⟨j, hj, rfl⟩ := List.getElem_of_mem hl
 have := h j hj
 simp [badL] at this
 omega
theorem dcheck_any (A : Option Addr) (c : Nat) (n : List (List UInt8)) (w : World) (hA : TxtR w A n) (hm : n.length ≤ 281474976710656) :
  Calls prog 117 #[.slice A n.length c] w (Ret (.int .i64 (checkN n)) w) := by
 go_enter func117, ntmps117
 go_wp2_with fail
 go_loop [7] (fun i => ∃ k : Nat, k ≤ n.length ∧ i = .int .i64 k ∧ Hid (∀ j (hj : j < n.length), j < k → badL n[j] = false)) (fun i => n.length - (intOf i).toNat)
 case atStart => exact ⟨0, Nat.zero_le _, rfl, Hh (fun j hj h => by omega)⟩
 case round =>
  obtain ⟨k, hk, rfl, H⟩ := hrel
  by_cases hlt : k < n.length
  ·
   have hlt' : (k : Int) < n.length := by omega
   obtain ⟨b, off, rfl, _, xa⟩ := hA (by omega)
   have c1 := xa k hlt
   clear xa
   cases hbd : badL n[k] with
   | true =>
    have R := Hh (checkN_bad n k hlt hbd)
    by_cases h0 : n[k] = []
    ·
     have e1 : (n[k] == []) = true := by simp [h0]
     have e2 : n[k].isEmpty = true := by simp [h0]
     clear h0 hbd
     go_wp2_with fail
     go_ret
     exact Ret.mk (ret_int R.out.symm) rfl
    ·
     have hpos : 0 < n[k].length := List.length_pos_iff.2 h0
     have hbig : (63 : Int) < n[k].length := by
      simp [badL] at hbd
      rcases hbd with h | h
      ·
       exact absurd h h0
      ·
       omega
     have e1 : (n[k] == []) = false := by simp [h0]
     have e2 : n[k].isEmpty = false := by simp [h0]
     clear h0 hbd
     go_wp2_with fail
     go_ret
     exact Ret.mk (ret_int R.out.symm) rfl
   | false =>
    have hl1 : 1 ≤ n[k].length ∧ n[k].length ≤ 63 := by
     simp [badL] at hbd
     have := hbd.1
     have : 0 < n[k].length := List.length_pos_iff.2 this
     omega
    have hb63 : (n[k].length : Int) ≤ 63 := by omega
    have h0 : n[k] ≠ [] := List.length_pos_iff.1 (by omega)
    have e1 : (n[k] == []) = false := by simp [h0]
    have e2 : n[k].isEmpty = false := by simp [h0]
    have HB := Hh hbd
    clear h0 hbd
    go_wp2_with fail
    go_round
    case rel => exact ⟨k + 1, by omega, by go_num, Hh (fun j hj h => by
     by_cases e : j = k
     ·
      subst e; exact HB.out
     ·
      exact H.out j hj (by omega))⟩
    case measure => simp [intOf]; omega
  ·
   have hlt' : ¬ (k : Int) < n.length := by omega
   have hall : ∀ j (hj : j < n.length), badL n[j] = false := fun j hj => H.out j hj (by omega)
   have R := checkN_rest n hall
   have hbd := lsum_bound n (good_lens hall)
   clear hall H
   by_cases h3 : 255 < 1 + lsum n
   ·
    have h3' : (255 : Int) < 1 + (lsum n : Int) := by omega
    rw [if_pos h3] at R
    have RR := Hh R
    clear R
    go_wp2_with fail
    refine (dsize_any A c n _ hA hm (by omega)).mono ?_
    rintro e w1 ⟨rfl, rfl⟩
    go_wp2_with fail
    go_ret
    exact Ret.mk (ret_int RR.out.symm) rfl
   ·
    have h3' : 1 + (lsum n : Int) ≤ 255 := by omega
    rw [if_neg h3] at R
    have RR := Hh R
    clear R
    go_wp2_with fail
    refine (dsize_any A c n _ hA hm (by omega)).mono ?_
    rintro e w1 ⟨rfl, rfl⟩
    go_wp2_with fail
    go_ret
    exact Ret.mk (ret_int RR.out.symm) rfl
theorem own_base {w : World} {B : Nat} {e : TypeId} {size n : Nat} {v : Value} {xs : List Value} (h : w.ownsRow B e size v n xs) : ∀ k, v.ownBlock = some k → B ≤ k := fun k hk => (h.lt k hk).1
theorem own_own {w w' : World} {B B' : Nat} {e e' : TypeId} {s s' n n' : Nat} {v v' : Value} {xs xs' : List Value} (h : w.ownsRow B e s v n xs) (h' : w.ownsRow B' e' s' v' n' xs') (hne : e ≠ e') (hg : w.grownBy w' v'.ownBlock) : w'.ownsRow B e s v n xs := by
 refine h.kept hg ?_
 rcases h.2 with ⟨rfl, _⟩ | ⟨g, cap, cur, rfl, _, hh, _⟩
 ·
  exact .inl rfl
 ·
  right
  intro hb
  rcases h'.2 with ⟨rfl, _⟩ | ⟨g', cap', cur', rfl, _, hh', _⟩
  ·
   simp [Value.ownBlock] at hb
  ·
   have : g = g' := by simpa [Value.ownBlock] using hb
   subst this
   rw [hh] at hh'
   injection hh' with hh'
   injection hh' with _ ht
   exact hne ht
theorem own_below {w w' : World} {B : Nat} {e : TypeId} {s n : Nat} {v : Value} {xs : List Value} (h : w.ownsRow B e s v n xs) (hb : Below w.heap.size w w') : w'.ownsRow B e s v n xs := by
 refine World.ownsRow.kept h (grown_of_below hb none) ?_
 cases hv : v.ownBlock with
 | none => exact .inl rfl
 | some g => exact .inr (by simp)
theorem blk_own {w w' : World} {B : Nat} {e t : TypeId} {s n g : Nat} {v : Value} {xs cs : List Value} (hb : Blk w g t cs) (h : w.ownsRow B e s v n xs) (hne : t ≠ e) (hg : w.grownBy w' v.ownBlock) : Blk w' g t cs := by
 refine hb.grown hg ?_
 rcases h.2 with ⟨rfl, _⟩ | ⟨g', cap, cur, rfl, _, hh, _⟩
 ·
  simp [Value.ownBlock]
 ·
  intro he
  have : g = g' := by simpa [Value.ownBlock] using he
  subst this
  unfold Blk at hb
  rw [hh] at hb
  injection hb with hb
  injection hb with _ ht
  exact hne ht.symm
theorem own_form {w : World} {B : Nat} {e : TypeId} {s n : Nat} {v : Value} {xs : List Value} (h : w.ownsRow B e s v n xs) : ∃ A c, v = .slice A n c := by
 rcases h.2 with ⟨rfl, rfl⟩ | ⟨g', cap, cur, rfl, _⟩
 ·
  exact ⟨none, 0, rfl⟩
 ·
  exact ⟨_, cap, rfl⟩
theorem below_own {B : Nat} {w0 w w' : World} {e : TypeId} {s n : Nat} {v : Value} {xs : List Value} (hb : Below B w0 w) (hB : B ≤ w.heap.size) (h : w.ownsRow B e s v n xs) (hg : w.grownBy w' v.ownBlock) : Below B w0 w' := hb.grown hg hB (own_base h)
theorem wpList_appB {P : Program} (w : World) {ops : Array Oper} {rest : List Oper} {o : Oper} {a : Act} {Q : Exit → Act → World → Prop} (hgd : o.guard = none) (s x : Operand) (t : TypeId)
  (ho : o.op = .call { callee := .builtin .append, args := #[s, x], argTypes := #[t, t] })
  (e : TypeId) (z : Value) (size bytes : Nat) (ht : P.underlying t = some (.slice e)) (hi : (P.info? e).map (fun i => (i.zero, i.size, i.bytes)) = some (some z, size, bytes)) (hzs : z.cells.size = size) (hsz : 0 < size)
  (B : Nat) (v : Value) (n : Nat) (xs : List Value) (hs : a.eval s = v) (hown : w.ownsRow B e size v n xs) (hB : B ≤ w.heap.size)
  (ad : Addr) (m c : Nat) (news : List Value) (hx : a.eval x = .slice (some ad) m c) (hl : news.length = m * size) (hnews : ∀ j u, news[j]? = some u → w.cell? (ad.add j) = some u) (h1 : ∀ u ∈ news, u.oneCell' = true)
  (hm : 0 < m) (h63 : n + m ≤ maxLen) (hbytes : (n + m) * bytes ≤ 140737488355328)
  (h : ∀ g cap w', w'.ownsRow B e size (.slice (some ⟨g, 0, none⟩) (n + m) cap) (n + m) (xs ++ news) → w.grownBy w' v.ownBlock → g < w'.heap.size → wpList P ops Q rest (a.put o.dst (.slice (some ⟨g, 0, none⟩) (n + m) cap)) w') :
  wpList P ops Q (o :: rest) a w := by
 obtain ⟨i, hi, hz, hsize, hby⟩ := info_parts hi
 refine wpList_append_own_at w hgd s x t ho B e i z size bytes ht hi hz hsize hby hzs hsz v n xs hs hown ad m c news hx hl hnews h1 h63 hbytes hB ?_
 intro v' w' hown' hg _ hat
 obtain ⟨g, cap, rfl⟩ : ∃ g cap, v' = .slice (some ⟨g, 0, none⟩) (n + m) cap := by
  rcases hown'.2 with ⟨_, h0⟩ | ⟨g, cap, _, hv, _⟩
  ·
   omega
  ·
   exact ⟨g, cap, hv⟩
 exact h g cap w' hown' hg (hown'.lt g rfl).2
theorem strCells_bs (l : List UInt8) : Lib.strCells (bs l) = octs l := by
 simp [Lib.strCells, octs, bs]
theorem wpList_appS (w : World) {ops : Array Oper} {rest : List Oper} {o : Oper} {a : Act} {Q : Exit → Act → World → Prop} (hgd : o.guard = none) (sl x : Operand)
  (ho : o.op = .call { callee := .builtin .append, args := #[sl, x], argTypes := #[131, 9] })
  (B : Nat) (v : Value) (q s : List UInt8) (hs : a.eval sl = v) (hown : w.ownsRow B 5 1 v q.length (octs q)) (hB : B ≤ w.heap.size) (hx : a.eval x = .string (bs s)) (hl : q.length + s.length ≤ 140737488355328)
  (h : ∀ A c w', w'.ownsRow B 5 1 (.slice A (q ++ s).length c) (q ++ s).length (octs (q ++ s)) → w.grownBy w' v.ownBlock → wpList prog ops Q rest (a.put o.dst (.slice A (q ++ s).length c)) w') :
  wpList prog ops Q (o :: rest) a w := by
 obtain ⟨i, hi, hz, hsize, hby⟩ := info_parts byteInfo
 refine Lib.wpList_append_own_string w hgd sl x _ _ ho B 5 i underlying131 underlying9 hi hz hsize hby v q.length (octs q) hs hown (bs s) hx (by rw [bs_size]; simp only [maxLen]; omega) (by rw [bs_size]; exact hl) hB ?_
 intro v' w' hown' hg _
 rw [bs_size, strCells_bs, ← octs_app, ← List.length_append] at hown'
 obtain ⟨A, c, rfl⟩ := own_form hown'
 exact h A c w' hown' hg
theorem Blk.range {w : World} {g : Nat} {t : TypeId} {L : List Value} (h : Blk w g t L) (o n : Nat) (hn : o + n ≤ L.length) : w.rangeAt g o ((L.drop o).take n) := by
 intro j v hv
 rw [h.cell (o + j)]
 obtain ⟨hj, he⟩ := List.getElem?_eq_some_iff.1 hv
 have hj' : j < n := by simp at hj; omega
 rw [List.getElem?_take_of_lt hj'] at hv
 rw [List.getElem?_drop] at hv
 exact hv
theorem Blk.there {w : World} {g : Nat} {t : TypeId} {L : List Value} (h : Blk w g t L) (o n : Nat) (hn : o + n ≤ L.length) : w.there g o n := by
 intro j hj
 refine ⟨?_, h.frozen _⟩
 rw [h.cell (o + j), List.getElem?_eq_getElem (by omega)]; rfl
theorem Blk.setCells {w : World} {g : Nat} {t : TypeId} : ∀ (vs : List Value) (L : List Value) (o : Nat) {w : World}, Blk w g t L → o + vs.length ≤ L.length → Blk (w.setCells g o vs) g t (L.take o ++ vs ++ L.drop (o + vs.length))
 | [], L, o, w, h, _ => by simpa [World.setCells] using h
 | v :: vs, L, o, w, h, hl => by
  rw [World.setCells]
  have h1 := Blk.setCells (w := w) (g := g) (t := t) vs (L.set o v) (o + 1) (h.set o v) (by simp at hl ⊢; omega)
  have hol : o < L.length := by simp at hl; omega
  have e : (L.set o v).take (o + 1) ++ vs ++ (L.set o v).drop (o + 1 + vs.length) = L.take o ++ v :: vs ++ L.drop (o + (v :: vs).length) := by
   rw [List.take_succ_eq_append_getElem (by simpa using hol)]
   have a1 : (L.set o v).take o = L.take o := by rw [List.take_set]; exact List.set_eq_of_length_le (by simp; omega)
   have a2 : (L.set o v).drop (o + 1 + vs.length) = L.drop (o + 1 + vs.length) := List.drop_set_of_lt (by omega)
   rw [a1, a2]
   simp [Nat.add_assoc, Nat.add_comm 1]
  rw [e] at h1
  exact h1
theorem setCells_size : ∀ (vs : List Value) (w : World) (g o : Nat), (w.setCells g o vs).heap.size = w.heap.size
 | [], _, _, _ => rfl
 | v :: vs, w, g, o => by rw [World.setCells, setCells_size vs]; simp [World.setCell]
theorem setCells_grown : ∀ (vs : List Value) {a w : World} {g o : Nat}, a.grownBy w (some g) → a.grownBy (w.setCells g o vs) (some g)
 | [], a, w, g, o, h => h
 | v :: vs, a, w, g, o, h => by rw [World.setCells]; exact setCells_grown vs (grown_set h o v)
theorem at_op {P : Program} {ops : Array Oper} {rest : List Oper} {o : Oper} {a : Act} {w : World} {Q : Exit → Act → World → Prop} (p : Op) (_ : o.op = p) (h : wpList P ops Q (o :: rest) a w) : wpList P ops Q (o :: rest) a w := h
theorem wpList_ldB {P : Program} {ops : Array Oper} {rest : List Oper} {op : Oper} {a : Act} {w : World} {Q : Exit → Act → World → Prop} (hgd : op.guard = none) (ty : TypeId) (x : Operand) (ho : op.op = .load ty x)
  (g o : Nat) (hx : a.eval x = .pointer (some ⟨g, o, none⟩)) {t : TypeId} {L : List Value} (hb : Blk w g t L) (n : Nat) (hn : o + n ≤ L.length) (d : TypeDesc)
  (hu : P.underlying ty = some d) (hd : d.isRow = true) (hi : (P.info? ty).map (·.size) = some n) (sub : List Value) (hsub : (L.drop o).take n = sub)
  (h : wpList P ops Q rest (a.put op.dst (.agg sub.toArray)) w) : wpList P ops Q (op :: rest) a w := by
 have hl : sub.length = n := by rw [← hsub]; simp; omega
 refine wpList_load_mid hgd ty x ho g o hx sub d (hsub ▸ hb.range o n hn) hu hd (by rw [hl]; exact hi) h
theorem wpList_stB {P : Program} {ops : Array Oper} {rest : List Oper} {op : Oper} {a : Act} {w : World} {Q : Exit → Act → World → Prop} (hgd : op.guard = none) (ty : TypeId) (x y : Operand) (ho : op.op = .store ty x y)
  (g o : Nat) (hx : a.eval x = .pointer (some ⟨g, o, none⟩)) (sub : List Value) (hy : a.eval y = .agg sub.toArray) {t : TypeId} {L : List Value} (hb : Blk w g t L) (hn : o + sub.length ≤ L.length)
  (hi : (P.info? ty).map (·.size) = some sub.length) (h1 : ∀ v ∈ sub, v.oneCell' = true)
  (h : ∀ w', Blk w' g t (L.take o ++ sub ++ L.drop (o + sub.length)) → w.grownBy w' (some g) → w'.heap.size = w.heap.size → wpList P ops Q rest (a.put op.dst undef) w') : wpList P ops Q (op :: rest) a w := by
 refine wpList_store_mid hgd ty x y ho g o sub.toArray hx hy (by simpa using hb.there o sub.length hn) (by simpa using hi) (all_oneCell_toArray h1) ?_
 exact h _ (Blk.setCells (w := w) sub L o hb hn) (setCells_grown sub (World.grownBy.refl _ _)) (setCells_size sub w g o)
theorem Blk.loads {P : Program} {w : World} {g : Nat} {t : TypeId} {L : List Value} (hb : Blk w g t L) (ty : TypeId) (o n : Nat) (hn : o + n ≤ L.length) (d : TypeDesc) (hu : P.underlying ty = some d) (hd : d.isRow = true) (hi : (P.info? ty).map (·.size) = some n) (sub : List Value) (hsub : (L.drop o).take n = sub) :
  (Instr.loadAt ty (.pointer (some ⟨g, o, none⟩))).run P w = .ok (.agg sub.toArray) w := by
 have hl : sub.length = n := by rw [← hsub]; simp; omega
 exact run_loadAt_mid w g o ty sub d (hsub ▸ hb.range o n hn) hu hd (by rw [hl]; exact hi)
theorem ret_cell {P : Program} {fn : Func} {R : Ending → World → Prop} {a : Act} {w : World} {p : Tmp} {ty : TypeId} (hr : fn.results = #[.cell p ty]) (g : Nat) (hp : a.tmps.getD p undef = .pointer (some ⟨g, 0, none⟩)) {t : TypeId} {L : List Value} (hb : Blk w g t L)
  (d : TypeDesc) (hu : P.underlying ty = some d) (hd : d.isRow = true) (hi : (P.info? ty).map (·.size) = some L.length) (hdf : a.defers = []) (h : R (.returned (.agg L.toArray)) w) : bodyPost P fn R .ret a w := by
 refine bodyPost_ret (v := .agg L.toArray) (results_cell_row hr a.tmps w g t L.toArray (0, 0) d hp hb hu ?_ (by simpa using hi)) hdf h
 cases d <;> first | rfl | cases hd
theorem ret_cell_tmp {P : Program} {fn : Func} {R : Ending → World → Prop} {a : Act} {w : World} {p u : Tmp} {ty : TypeId} (hr : fn.results = #[.cell p ty, .tmp u]) (g : Nat) (hp : a.tmps.getD p undef = .pointer (some ⟨g, 0, none⟩)) {t : TypeId} {L : List Value} (hb : Blk w g t L)
  (d : TypeDesc) (hu : P.underlying ty = some d) (hd : d.isRow = true) (hi : (P.info? ty).map (·.size) = some L.length) (hdf : a.defers = []) (v : Value) (hv : a.tmps.getD u undef = v) (h : R (.returned (.tuple #[.agg L.toArray, v])) w) : bodyPost P fn R .ret a w := by
 refine bodyPost_ret (v := .tuple #[.agg L.toArray, v]) ?_ hdf h
 rw [results_cell_tmp hr, hp]
 have hl := run_loadVar_row (P := P) w g t ty L.toArray (0, 0) d hb hu (by cases d <;> first | rfl | cases hd) (by simpa using hi)
 simp [asAddr, hl, hv]
theorem wpList_ldG {P : Program} {ops : Array Oper} {rest : List Oper} {op : Oper} {a : Act} {w : World} {Q : Exit → Act → World → Prop} (ty : TypeId) (x : Operand) (ho : op.op = .load ty x) (hw : Region.wanted op (yielded ops a.tmps) = true)
  (g o : Nat) (hx : a.eval x = .pointer (some ⟨g, o, none⟩)) {t : TypeId} {L : List Value} (hb : Blk w g t L) (n : Nat) (hn : o + n ≤ L.length) (d : TypeDesc)
  (hu : P.underlying ty = some d) (hd : d.isRow = true) (hi : (P.info? ty).map (·.size) = some n) (sub : List Value) (hsub : (L.drop o).take n = sub)
  (h : wpList P ops Q rest (a.put op.dst (.agg sub.toArray)) w) : wpList P ops Q (op :: rest) a w := by
 have hr := hb.loads (P := P) ty o n hn d hu hd hi sub hsub
 unfold wpList
 rw [if_pos hw]
 left
 unfold Oper.wp execOp
 simp only [ho, hx, Sem.run_bind, hr, Result.andThen_ok, Sem.run_pure]
 exact h
theorem all_range_ints : ∀ (xs ys : List Int), xs.length = ys.length → ((List.range xs.length).all fun i => xs.getD i 0 == ys.getD i 0) = (xs == ys)
 | [], [], _ => rfl
 | x :: xs, y :: ys, h => by
  have ih := all_range_ints xs ys (by simpa using h)
  rw [List.length_cons, List.range_succ_eq_map, List.all_cons, List.all_map]
  simp only [List.getD_cons_zero, Function.comp_def, List.getD_cons_succ, ih]
  simp [List.cons_beq_cons]
 | [], _ :: _, h => by simp at h
 | _ :: _, [], h => by simp at h
theorem run_equalIn_ints {P : Program} (w : World) (d : Nat) (t e : TypeId) (n : Nat) (k : IntKind) (ht : P.underlying t = some (.array n e)) (he : P.underlying e = some (.int k)) (hsz : ∀ w, (sizeOf e).run P w = .ok 1 w)
  (xs ys : List Int) (hx : xs.length = n) (hy : ys.length = n) :
  (Op.equalIn (d + 2) t (.agg (xs.map (Value.int k)).toArray) (.agg (ys.map (Value.int k)).toArray)).run P w = .ok (xs == ys) w := by
 rw [← all_range_ints xs ys (hx.trans hy.symm), hx, List.range_eq_range', Op.equalIn]
 simp only [Sem.run_bind, run_underlying ht, Result.andThen_ok, hsz, Std.Legacy.Range.forIn_eq_forIn_range', Std.Legacy.Range.size, Nat.sub_zero, Nat.add_sub_cancel, Nat.div_one]
 have hl : ∀ i ∈ List.range' 0 n 1, i < n := fun i hi => by simpa using (List.mem_range'_1.1 hi).2
 generalize List.range' 0 n 1 = l at hl ⊢
 induction l with
 | nil => simp
 | cons i l ih =>
  have hi : i < n := hl i (by simp)
  have px : (part e (xs.map (Value.int k)).toArray (i * 1)).run P w = .ok (.int k (xs.getD i 0)) w := by
   simp [part, isAgg, run_underlying he, List.getD, List.getElem?_eq_getElem (show i < xs.length by omega)]
  have py : (part e (ys.map (Value.int k)).toArray (i * 1)).run P w = .ok (.int k (ys.getD i 0)) w := by
   simp [part, isAgg, run_underlying he, List.getD, List.getElem?_eq_getElem (show i < ys.length by omega)]
  have pe : (Op.equalIn (d + 1) e (.int k (xs.getD i 0)) (.int k (ys.getD i 0))).run P w = .ok (xs.getD i 0 == ys.getD i 0) w := by
   rw [run_equalIn_int w d e k k _ _ he]
  simp only [List.forIn_cons, Sem.run_bind, px, py, pe, Result.andThen_ok, List.all_cons]
  cases hb : (xs.getD i 0 == ys.getD i 0)
  ·
   simp
  ·
   simp only [Bool.not_true, Bool.false_eq_true, if_false, Sem.run_pure, Result.andThen_ok, Bool.true_and]
   exact ih fun j hj => hl j (by simp [hj])
theorem size_int (w : World) : (sizeOf 3).run prog w = .ok 1 w := by kernel_rfl
section
variable {P : Program} {ops : Array Oper} {C : World → Prop} {Q : Act → Prop} {rest : List Oper} {o : Oper} {a : Act}
theorem wpQuiet_val {v : Value} (hw : Region.wanted o (yielded ops a.tmps) = true) (hv : ∀ w, C w → (execOp a.eval o).run P w = .ok (.value v) w) (h : wpQuiet P ops C Q rest (a.put o.dst v)) : wpQuiet P ops C Q (o :: rest) a := by
 unfold wpQuiet
 rw [if_pos hw]
 refine ⟨v, fun w hC => ?_, h⟩
 unfold Oper.quietAt
 rw [hv w hC]
 exact ⟨rfl, rfl⟩
theorem wpQuiet_ld {v : Value} (ty : TypeId) (x : Operand) (ho : o.op = .load ty x) (p : Addr) (hx : a.eval x = .pointer (some p)) (hw : Region.wanted o (yielded ops a.tmps) = true)
  (hv : ∀ w, C w → (Instr.loadAt ty (.pointer (some p))).run P w = .ok v w) (h : wpQuiet P ops C Q rest (a.put o.dst v)) : wpQuiet P ops C Q (o :: rest) a := by
 refine wpQuiet_val hw (fun w hC => ?_) h
 unfold execOp
 simp only [ho, hx, Sem.run_bind, hv w hC, Result.andThen_ok, Sem.run_pure]
theorem wpQuiet_call {v : Value} (f : FuncId) (vs : Array Value) (hw : Region.wanted o (yielded ops a.tmps) = true) (hr : ∀ w, (execOp a.eval o).run P w = .ok (.enter f vs) w)
  (hc : ∀ w, C w → Calls P f vs w fun e w' => e = .returned v ∧ C w') (h : wpQuiet P ops C Q rest (a.put o.dst v)) : wpQuiet P ops C Q (o :: rest) a := by
 unfold wpQuiet
 rw [if_pos hw]
 refine ⟨v, fun w hC => ?_, h⟩
 unfold Oper.quietAt
 rw [hr w]
 exact ⟨rfl, hc w hC⟩
theorem wp_region_old {id : Nat} {Q' : Exit → Act → World → Prop} {W : World} {l : List Oper} (hm : P.follows .mixedOrders = true) (hB : Region.lexB .any l.toArray = true)
  (h : wpQuiet P l.toArray (fun w' => Below W.heap.size W w') (fun a' => ∀ w', Below W.heap.size W w' → Q' .normal a' w') l a) : (Code.region id l.toArray true).wp P Q' a W :=
 wp_region_quiet (C := fun w' => Below W.heap.size W w') hm hB ((Below.refl _ _).drew) (by simpa using h)
end
theorem RetB.old {P : Program} {f : FuncId} {args : Array Value} {v : Value} {W w : World} (hw : Below W.heap.size W w) (h : Calls P f args w (RetB v w)) : Calls P f args w fun e w' => e = .returned v ∧ Below W.heap.size W w' :=
 h.mono fun _ _ ⟨he, hb⟩ => ⟨he, below_then hw hw.size hb⟩
theorem Ret.old {P : Program} {f : FuncId} {args : Array Value} {v : Value} {W w : World} (hw : Below W.heap.size W w) (h : Calls P f args w (Ret v w)) : Calls P f args w fun e w' => e = .returned v ∧ Below W.heap.size W w' :=
 h.mono fun _ _ ⟨he, hb⟩ => ⟨he, hb ▸ hw⟩
theorem run_load1 {P : Program} {w : World} {p : Addr} {v : Value} {ty : TypeId} {d : TypeDesc} (hu : P.underlying ty = some d) (hd : d.isRow = false) (hc : w.cell? p = some v) : (Instr.loadAt ty (.pointer (some p))).run P w = .ok v w := by
 have hagg : (isAgg ty).run P w = .ok false w := by
  unfold isAgg
  rw [Sem.run_bind, run_underlying hu w]
  cases d <;> simp_all
 simp only [Instr.loadAt, Instr.sureAddr, Sem.run_bind, Sem.run_pure, Result.andThen_ok, loadVar, hagg]
 simp [hc, go_sem]
set_option linter.unusedSimpArgs false
section
variable {P : Program} {ops : Array Oper} {S : World → Prop} {Q : Exit → Act → World → Prop} {o : Oper} {a : Act} {w : World} {fuel : Nat} {listed : Array Bool}
theorem held_val (i : Nat) (d : Option Tmp) {v : Value} (hi : ops[i]? = some o) (hd : o.dst = d) (hs : Region.noSelect ops = true) (hf : Region.free .any ops listed i = true) (hr : (Region.ready .any ops listed).contains i = true)
  (hQ : ∀ c a w, Q (.panic c) (a.put d v) w → Q (.panic c) a w) (hw : Region.wanted o (yielded ops a.tmps) = true) (hv : ∀ w, S w → (execOp a.eval o).run P w = .ok (.value v) w) (hS : S w)
  (h : wpAnyH P .any ops Q S fuel (listed.setIfInBounds i true) (a.put d v) w) : wpAnyH P .any ops Q S (fuel + 1) listed a w :=
 by subst hd; exact wpAnyH_take hi hs hf hr hQ (.inl ⟨hw, hv⟩) hS h
theorem held_ld (i : Nat) (d : Option Tmp) {v : Value} (ty : TypeId) (x : Operand) (p : Addr) (hi : ops[i]? = some o) (hd : o.dst = d) (ho : o.op = .load ty x) (hx : a.eval x = .pointer (some p)) (hs : Region.noSelect ops = true) (hf : Region.free .any ops listed i = true) (hr : (Region.ready .any ops listed).contains i = true)
  (hQ : ∀ c a w, Q (.panic c) (a.put d v) w → Q (.panic c) a w) (hw : Region.wanted o (yielded ops a.tmps) = true) (hv : ∀ w, S w → (Instr.loadAt ty (.pointer (some p))).run P w = .ok v w) (hS : S w)
  (h : wpAnyH P .any ops Q S fuel (listed.setIfInBounds i true) (a.put d v) w) : wpAnyH P .any ops Q S (fuel + 1) listed a w := by
 refine held_val i d hi hd hs hf hr hQ hw (fun w hC => ?_) hS h
 unfold execOp
 simp only [ho, hx, Sem.run_bind, hv w hC, Result.andThen_ok, Sem.run_pure]
theorem held_call (i : Nat) (d : Option Tmp) (f : FuncId) (vs : Array Value) (hr : Region.ready .any ops listed = [i]) (hi : ops[i]? = some o) (hd : o.dst = d) (hw : Region.wanted o (yielded ops a.tmps) = true) (he : (execOp a.eval o).run P w = .ok (.enter f vs) w)
  {R : Ending → World → Prop} (hc : Calls P f vs w R) (h : ∀ e w', R e w' → ∃ v, e = .returned v ∧ S w' ∧ wpAnyH P .any ops Q S fuel (listed.setIfInBounds i true) (a.put d v) w') : wpAnyH P .any ops Q S (fuel + 1) listed a w := by
 subst hd
 refine wpAnyH_all hr (by simp) fun j hj => ?_
 rw [List.mem_singleton] at hj
 subst hj
 unfold wpOp
 simp only [hi, hw, if_true]
 left
 unfold Oper.wp
 rw [he]
 simp only [Oper.upon]
 refine hc.mono fun e w' hR => ?_
 obtain ⟨v, rfl, hS, h'⟩ := h e w' hR
 exact ⟨hS, h'⟩
theorem held_run (i : Nat) (d : Option Tmp) (hr : Region.ready .any ops listed = [i]) (hi : ops[i]? = some o) (hd : o.dst = d) (hw : Region.wanted o (yielded ops a.tmps) = true) {v : Value} {w' : World} (he : (execOp a.eval o).run P w = .ok (.value v) w') (hS : S w')
  (h : wpAnyH P .any ops Q S fuel (listed.setIfInBounds i true) (a.put d v) w') : wpAnyH P .any ops Q S (fuel + 1) listed a w := by
 subst hd
 refine wpAnyH_all hr (by simp) fun j hj => ?_
 rw [List.mem_singleton] at hj
 subst hj
 unfold wpOp
 simp only [hi, hw, if_true]
 left
 unfold Oper.wp
 rw [he]
 exact ⟨hS, h⟩
theorem held_skip (i : Nat) (d : Option Tmp) (hr : Region.ready .any ops listed = [i]) (hi : ops[i]? = some o) (hd : o.dst = d) (hw : Region.wanted o (yielded ops a.tmps) = true) {w' : World} (he : (execOp a.eval o).run P w = .ok .skip w') (hS : S w')
  (h : wpAnyH P .any ops Q S fuel (listed.setIfInBounds i true) (a.put d undef) w') : wpAnyH P .any ops Q S (fuel + 1) listed a w := by
 subst hd
 refine wpAnyH_all hr (by simp) fun j hj => ?_
 rw [List.mem_singleton] at hj
 subst hj
 unfold wpOp
 simp only [hi, hw, if_true]
 left
 unfold Oper.wp
 rw [he]
 exact ⟨hS, h⟩
end
theorem run_stB {P : Program} {w : World} {g o : Nat} {ty t : TypeId} {L sub : List Value} (hb : Blk w g t L) (hn : o + sub.length ≤ L.length) (hi : (P.info? ty).map (·.size) = some sub.length) (h1 : ∀ v ∈ sub, v.oneCell' = true) :
  (Instr.storeAt ty (.pointer (some ⟨g, o, none⟩)) (.agg sub.toArray)).run P w = .ok () (w.setCells g o sub) :=
 run_storeAt_mid w g o ty sub.toArray (by simpa using hb.there o sub.length hn) (by simpa using hi) (all_oneCell_toArray h1)
theorem held_stB {P : Program} {ops : Array Oper} {S : World → Prop} {Q : Exit → Act → World → Prop} {o : Oper} {a : Act} {w : World} {fuel : Nat} {listed : Array Bool} (i : Nat) (d : Option Tmp) (ty : TypeId) (x y : Operand) (hr : Region.ready .any ops listed = [i]) (hi : ops[i]? = some o) (hd : o.dst = d) (ho : o.op = .store ty x y) (hw : Region.wanted o (yielded ops a.tmps) = true)
  (g off : Nat) (hx : a.eval x = .pointer (some ⟨g, off, none⟩)) (sub : List Value) (hy : a.eval y = .agg sub.toArray) {t : TypeId} {L : List Value} (hb : Blk w g t L) (hn : off + sub.length ≤ L.length) (hinf : (P.info? ty).map (·.size) = some sub.length) (h1 : ∀ v ∈ sub, v.oneCell' = true)
  (h : ∀ w', Blk w' g t (L.take off ++ sub ++ L.drop (off + sub.length)) → w.grownBy w' (some g) → w'.heap.size = w.heap.size → S w' ∧ wpAnyH P .any ops Q S fuel (listed.setIfInBounds i true) (a.put d undef) w') : wpAnyH P .any ops Q S (fuel + 1) listed a w := by
 obtain ⟨h2, h3⟩ := h _ (Blk.setCells (w := w) sub L off hb hn) (setCells_grown sub (World.grownBy.refl _ _)) (setCells_size sub w g off)
 refine held_skip i d hr hi hd hw ?_ h2 h3
 have hst := run_stB (P := P) hb hn hinf h1
 unfold execOp
 simp only [ho, hx, hy, Sem.run_bind, hst, Result.andThen_ok, Sem.run_pure]
theorem run_stC {P : Program} {w : World} {g o : Nat} {ty t : TypeId} {L : List Value} {v : Value} (hb : Blk w g t L) (hn : o < L.length) (hi : (P.info? ty).map (·.size) = some 1) (h1 : v.oneCell' = true) (hv : v.cells = #[v]) :
  (Instr.storeAt ty (.pointer (some ⟨g, o, none⟩)) v).run P w = .ok () (w.setCell ⟨g, o, none⟩ v) := by
 obtain ⟨i, hi1, hi2⟩ := Option.map_eq_some_iff.1 hi
 have hc : w.cell? ⟨g, o, none⟩ = some L[o] := (hb.cell o).trans (List.getElem?_eq_getElem hn)
 have hf := hb.frozen o
 have hst : (store ⟨g, o, none⟩ v).run P w = .ok () (w.setCell ⟨g, o, none⟩ v) := by
  rw [run_store P w _ v _ h1, hc]
  simp [hf]
 have hadd : (⟨g, o, none⟩ : Addr).add 0 = ⟨g, o, none⟩ := by unfold Addr.add; split <;> simp_all
 simp [Instr.storeAt, Instr.sureAddr, storeVar, sizeOf, typeInfo, hi1, hi2, hv, storeCells, hadd, hst]
theorem wpList_stC {P : Program} {ops : Array Oper} {rest : List Oper} {op : Oper} {a : Act} {w : World} {Q : Exit → Act → World → Prop} (hgd : op.guard = none) (ty : TypeId) (x y : Operand) (ho : op.op = .store ty x y)
  (g o : Nat) (hx : a.eval x = .pointer (some ⟨g, o, none⟩)) (v : Value) (hy : a.eval y = v) {t : TypeId} {L : List Value} (hb : Blk w g t L) (hn : o < L.length)
  (hi : (P.info? ty).map (·.size) = some 1) (h1 : v.oneCell' = true) (hv : v.cells = #[v])
  (h : ∀ w', Blk w' g t (L.set o v) → w.grownBy w' (some g) → w'.heap.size = w.heap.size → wpList P ops Q rest (a.put op.dst undef) w') : wpList P ops Q (op :: rest) a w := by
 refine wpList_plain hgd fun K hK => ?_
 have hst := run_stC (P := P) hb hn hi h1 hv
 unfold Oper.wp execOp
 simp only [ho, hx, hy, Sem.run_bind, hst, Result.andThen_ok, Sem.run_pure]
 exact hK _ _ (h _ (hb.set o v) (grown_set (World.grownBy.refl _ _) o v) (by simp [World.setCell]))
theorem wpList_bld {P : Program} {ops : Array Oper} {rest : List Oper} {o : Oper} {a : Act} {w : World} {Q : Exit → Act → World → Prop} (hgd : o.guard = none) (t : TypeId) (parts : Array (Nat × Operand)) (ho : o.op = .build t parts) (vals : Array (Nat × Value)) (hv : parts.map (fun (i, x) => (i, a.eval x)) = vals)
  {v : Value} (hr : (Instr.build t vals).run P w = .ok v w) (h : wpList P ops Q rest (a.put o.dst v) w) : wpList P ops Q (o :: rest) a w := by
 refine wpList_plain hgd fun K hK => ?_
 unfold Oper.wp execOp
 simp only [ho, hv, Sem.run_bind, hr, Result.andThen_ok, Sem.run_pure]
 exact hK _ _ h
theorem nameInfo1 : (prog.info? 81).map (·.size) = some 1 := by kernel_rfl
theorem intInfo1 : (prog.info? 3).map (·.size) = some 1 := by kernel_rfl
section
variable {P : Program} {ops : Array Oper} {S : World → Prop} {Q : Exit → Act → World → Prop} {K : Act → World → Prop} {o : Oper} {a : Act} {w : World} {fuel : Nat} {listed : Array Bool}
theorem ord_one (i : Nat) (hr : Region.ready .any ops listed = [i]) (h : wpOp P ops Q i (fun a' w' => S w' ∧ wpAnyH P .any ops Q S fuel (listed.setIfInBounds i true) a' w') a w) : wpAnyH P .any ops Q S (fuel + 1) listed a w := by
 refine wpAnyH_all hr (by simp) fun j hj => ?_
 rw [List.mem_singleton] at hj
 subst hj
 exact h
theorem ord_two (i j : Nat) (hr : Region.ready .any ops listed = [i, j]) (h1 : wpOp P ops Q i (fun a' w' => S w' ∧ wpAnyH P .any ops Q S fuel (listed.setIfInBounds i true) a' w') a w) (h2 : wpOp P ops Q j (fun a' w' => S w' ∧ wpAnyH P .any ops Q S fuel (listed.setIfInBounds j true) a' w') a w) : wpAnyH P .any ops Q S (fuel + 1) listed a w := by
 refine wpAnyH_all hr (by simp) fun k hk => ?_
 simp only [List.mem_cons, List.not_mem_nil, or_false] at hk
 rcases hk with rfl | rfl
 ·
  exact h1
 ·
  exact h2
theorem opw_run (i : Nat) (d : Option Tmp) (hi : ops[i]? = some o) (hd : o.dst = d) (hw : Region.wanted o (yielded ops a.tmps) = true) {v : Value} {w' : World} (he : (execOp a.eval o).run P w = .ok (.value v) w') (h : K (a.put d v) w') : wpOp P ops Q i K a w := by
 subst hd
 unfold wpOp
 simp only [hi, hw, if_true]
 left
 unfold Oper.wp
 rw [he]
 exact h
theorem opw_skip (i : Nat) (d : Option Tmp) (hi : ops[i]? = some o) (hd : o.dst = d) (hw : Region.wanted o (yielded ops a.tmps) = true) {w' : World} (he : (execOp a.eval o).run P w = .ok .skip w') (h : K (a.put d undef) w') : wpOp P ops Q i K a w := by
 subst hd
 unfold wpOp
 simp only [hi, hw, if_true]
 left
 unfold Oper.wp
 rw [he]
 exact h
theorem opw_call (i : Nat) (d : Option Tmp) (f : FuncId) (vs : Array Value) (hi : ops[i]? = some o) (hd : o.dst = d) (hw : Region.wanted o (yielded ops a.tmps) = true) (he : (execOp a.eval o).run P w = .ok (.enter f vs) w)
  {R : Ending → World → Prop} (hc : Calls P f vs w R) (h : ∀ e w', R e w' → ∃ v, e = .returned v ∧ K (a.put d v) w') : wpOp P ops Q i K a w := by
 subst hd
 unfold wpOp
 simp only [hi, hw, if_true]
 left
 unfold Oper.wp
 rw [he]
 simp only [Oper.upon]
 refine hc.mono fun e w' hR => ?_
 obtain ⟨v, rfl, h'⟩ := h e w' hR
 exact h'
theorem opw_ld (i : Nat) (d : Option Tmp) {v : Value} (ty : TypeId) (x : Operand) (p : Addr) (hi : ops[i]? = some o) (hd : o.dst = d) (ho : o.op = .load ty x) (hx : a.eval x = .pointer (some p)) (hw : Region.wanted o (yielded ops a.tmps) = true)
  (hv : (Instr.loadAt ty (.pointer (some p))).run P w = .ok v w) (h : K (a.put d v) w) : wpOp P ops Q i K a w := by
 refine opw_run i d hi hd hw ?_ h
 unfold execOp
 simp only [ho, hx, Sem.run_bind, hv, Result.andThen_ok, Sem.run_pure]
theorem opw_stC (i : Nat) (ty : TypeId) (x y : Operand) (hi : ops[i]? = some o) (hd : o.dst = none) (ho : o.op = .store ty x y) (hw : Region.wanted o (yielded ops a.tmps) = true)
  (g off : Nat) (hx : a.eval x = .pointer (some ⟨g, off, none⟩)) (v : Value) (hy : a.eval y = v) {t : TypeId} {L : List Value} (hb : Blk w g t L) (hn : off < L.length)
  (hinf : (P.info? ty).map (·.size) = some 1) (h1 : v.oneCell' = true) (hv : v.cells = #[v])
  (h : ∀ w', Blk w' g t (L.set off v) → w.grownBy w' (some g) → w'.heap.size = w.heap.size → K (a.put none undef) w') : wpOp P ops Q i K a w := by
 have hst := run_stC (P := P) hb hn hinf h1 hv
 refine opw_skip i none hi hd hw (w' := w.setCell ⟨g, off, none⟩ v) ?_ (h _ (hb.set off v) (grown_set (World.grownBy.refl _ _) off v) (by simp [World.setCell]))
 unfold execOp
 simp only [ho, hx, hy, Sem.run_bind, hst, Result.andThen_ok, Sem.run_pure]
end
def Thaw (n : Nat) (fz : Nat × Nat) : Prop := fz.2 = 0 ∨ n ≤ fz.1
def OwnB (w : World) (B : Nat) (v : Value) (s : List UInt8) : Prop :=
 (v = .slice none 0 0 ∧ s = []) ∨ ∃ (g cap : Nat) (cur : Array Value) (fz : Nat × Nat), v = .slice (some ⟨g, 0, none⟩) s.length cap ∧ B ≤ g ∧ w.heap[g]? = some (.cells cur 5 fz) ∧ Thaw cur.size fz ∧ s.length ≤ cap ∧ cap ≤ maxLen ∧ cur.size = cap ∧ cur.toList.take s.length = octs s
theorem OwnB.form {w : World} {B : Nat} {v : Value} {s : List UInt8} (h : OwnB w B v s) : ∃ A c, v = .slice A s.length c := by
 rcases h with ⟨rfl, rfl⟩ | ⟨g, cap, cur, fz, rfl, _⟩
 ·
  exact ⟨none, 0, rfl⟩
 ·
  exact ⟨_, _, rfl⟩
theorem OwnB.base {w : World} {B : Nat} {v : Value} {s : List UInt8} (h : OwnB w B v s) : ∀ k, v.ownBlock = some k → B ≤ k := by
 intro k hk
 rcases h with ⟨rfl, rfl⟩ | ⟨g, cap, cur, fz, rfl, hB, _⟩
 ·
  simp [Value.ownBlock] at hk
 ·
  have : g = k := by simpa [Value.ownBlock] using hk
  omega
theorem OwnB.ne {w : World} {B g : Nat} {v : Value} {s : List UInt8} {cs : Array Value} {t : TypeId} {fz : Nat × Nat} (h : OwnB w B v s) (hb : w.heap[g]? = some (.cells cs t fz)) (ht : t ≠ 5) : some g ≠ v.ownBlock := by
 rcases h with ⟨rfl, rfl⟩ | ⟨g', cap, cur, fz', rfl, hB, hh, _⟩
 ·
  simp [Value.ownBlock]
 ·
  intro he
  have : g = g' := by simpa [Value.ownBlock] using he
  subst this
  rw [hb] at hh
  injection hh with hh
  injection hh with _ h2
  exact ht h2
theorem OwnB.kept {w w' : World} {B : Nat} {v : Value} {s : List UInt8} {row : Option Nat} (h : OwnB w B v s) (hg : w.grownBy w' row) (hne : v.ownBlock = none ∨ v.ownBlock ≠ row) : OwnB w' B v s := by
 rcases h with hn | ⟨g, cap, cur, fz, rfl, hB, hh, rest⟩
 ·
  exact .inl hn
 ·
  refine .inr ⟨g, cap, cur, fz, rfl, hB, ?_, rest⟩
  rw [hg.block g (Array.getElem?_eq_some_iff.1 hh).1 (by simpa [Value.ownBlock] using hne)]
  exact hh
theorem OwnB.below {w w' : World} {B : Nat} {v : Value} {s : List UInt8} (h : OwnB w B v s) (hb : Below w.heap.size w w') : OwnB w' B v s := by
 refine h.kept (grown_of_below hb none) ?_
 cases hv : v.ownBlock with
 | none => exact .inl rfl
 | some g => exact .inr (by simp)
theorem run_storeCells_thaw (P : Program) (g o : Nat) (t : TypeId) (fz : Nat × Nat) : ∀ (vs : List Value) (i : Nat) (cur : Array Value) (w : World), w.heap[g]? = some (.cells cur t fz) → Thaw cur.size fz → o + i + vs.length ≤ cur.size → (∀ v ∈ vs, v.oneCell' = true) →
  (storeCells ⟨g, o, none⟩ vs i).run P w = .ok () (w.setRow g (cur.toList.take (o + i) ++ vs ++ cur.toList.drop (o + i + vs.length)).toArray)
 | [], i, cur, w, hg, _, _, _ => by
  simp only [storeCells, List.append_nil, List.length_nil, Nat.add_zero, List.take_append_drop, Array.toArray_toList]
  rw [setRow_self w g cur t fz hg]
  rfl
 | v :: rest, i, cur, w, hg, hfz, hl, h1 => by
  have hi : o + i < cur.size := by simp at hl; omega
  have hadd : (⟨g, o, none⟩ : Addr).add i = ⟨g, o + i, none⟩ := by unfold Addr.add; split <;> simp_all
  have hcell : w.cell? ⟨g, o + i, none⟩ = some cur[o + i] := by simp [World.cell?, hg, hi]
  have hfro : w.frozen? ⟨g, o + i, none⟩ = false := by
   obtain ⟨lo, hi'⟩ := fz
   simp only [World.frozen?, hg, Bool.and_eq_false_iff, decide_eq_false_iff_not]
   simp only [Thaw] at hfz
   omega
  have hst : (store ((⟨g, o, none⟩ : Addr).add i) v).run P w = .ok () (w.setRow g (cur.setIfInBounds (o + i) v)) := by
   rw [hadd, run_store P w _ v _ (h1 v (by simp)), hcell]
   simp [hfro, setCell_eq_setRow w g (o + i) cur t fz v hg]
  have ih := run_storeCells_thaw P g o t fz rest (i + 1) (cur.setIfInBounds (o + i) v) (w.setRow g (cur.setIfInBounds (o + i) v)) (setRow_heap w g cur _ t _ hg) (by simpa using hfz) (by simp at hl ⊢; omega) (fun x hx => h1 x (by simp [hx]))
  simp only [storeCells, Sem.run_bind, hst, Result.andThen_ok, ih, setRow_setRow]
  congr 3
  have e := list_seg_step cur.toList (o + i) v rest (by simp at hl ⊢; omega)
  simpa [Array.toList_setIfInBounds, Nat.add_assoc] using e
theorem run_appB (w : World) (ty : TypeId) (B : Nat) (v : Value) (s x : List UInt8) (hown : OwnB w B v s) (hB : B ≤ w.heap.size) (hl : s.length + x.length ≤ 140737488355328) :
  ∃ v' w', (Builtin.append_ #[131, 9] ty #[v, .string (bs x)]).run prog w = .ok v' w' ∧ OwnB w' B v' (s ++ x) ∧ w.grownBy w' v.ownBlock := by
 obtain ⟨i, hi, hz, hsize, hby⟩ := info_parts byteInfo
 rcases hown with ⟨rfl, rfl⟩ | ⟨g, cap, cur, fz, rfl, hbg, hg, hfz, hnc, hcm, hcs, htake⟩
 ·
  obtain ⟨v', w', h1, h2, h3, h4⟩ := Lib.run_append_own_string (P := prog) w B 131 9 ty 5 i underlying131 underlying9 hi hz hsize hby (.slice none 0 0) 0 [] (World.ownsRow_nil _ _ _ _) (bs x) (by rw [bs_size]; simp only [maxLen]; simp at hl; omega) (by rw [bs_size]; simpa using hl) hB
  refine ⟨v', w', h1, ?_, h3⟩
  rw [bs_size, strCells_bs, Nat.zero_add, List.nil_append] at h2
  rcases h2.2 with ⟨rfl, h0⟩ | ⟨g, cap, cur, hv, hb, hh, hc, hm, hs, ht⟩
  ·
   have : x = [] := List.length_eq_zero_iff.1 h0
   subst this
   exact .inl ⟨rfl, rfl⟩
  ·
   exact .inr ⟨g, cap, cur, (0, 0), by simpa using hv, hb, hh, .inl rfl, by simpa using hc, hm, by simpa using hs, by simpa using ht⟩
 ·
  have hxl : (octs s).length = s.length := octs_length s
  have hlen : (octs s ++ octs x).length = s.length + x.length := by rw [List.length_append, octs_length, octs_length]
  by_cases hroom : s.length + x.length ≤ cap
  ·
   have hf := Lib.run_firstCells_string (P := prog) w 1 (bs x)
   have hst := run_storeCells_thaw prog g s.length 5 fz (octs x) 0 cur w hg hfz (by simp [octs_length]; omega) (fun v hv => by obtain ⟨b, _, rfl⟩ := List.mem_map.1 hv; rfl)
   rw [strCells_bs, bs_size] at hf
   simp only [Nat.add_zero, octs_length] at hst
   have hr : (Builtin.append_ #[131, 9] ty #[.slice (some ⟨g, 0, none⟩) s.length cap, .string (bs x)]).run prog w =
     .ok (.slice (some ⟨g, 0, none⟩) (s.length + x.length) cap) (w.setRow g (cur.toList.take s.length ++ octs x ++ cur.toList.drop (s.length + x.length)).toArray) := by
    simp [Builtin.append_, run_underlying underlying131, run_underlying underlying9, sizeOf, typeInfo, hi, hsize, Builtin.lenOf, hroom, hf, Addr.add_lit, hst, bs_size]
   refine ⟨_, _, hr, .inr ⟨g, cap, _, fz, by rw [List.length_append], hbg, setRow_heap w g cur _ _ _ hg, ?_, by rw [List.length_append]; exact hroom, hcm, ?_, ?_⟩, ⟨rfl, rfl, rfl, by simp, fun k _ hk => setRow_other w g k _ (fun e => hk (by simp [Value.ownBlock, e]))⟩⟩
   ·
    have : (cur.toList.take s.length ++ octs x ++ cur.toList.drop (s.length + x.length)).toArray.size = cur.size := by
     simp only [List.size_toArray, List.length_append, List.length_take, List.length_drop, Array.length_toList, octs_length]; omega
    rw [this]; exact hfz
   ·
    simp only [List.size_toArray, List.length_append, List.length_take, List.length_drop, Array.length_toList, octs_length]; omega
   ·
    rw [htake, octs_app, List.length_append, ← hlen]
    exact List.take_left
  ·
   have holds : ∀ j u, (octs s)[j]? = some u → w.cell? ((⟨g, 0, none⟩ : Addr).add j) = some u := by
    intro j u hu
    have hadd : (⟨g, 0, none⟩ : Addr).add j = ⟨g, j, none⟩ := by unfold Addr.add; split <;> simp_all
    rw [hadd, cell_of_row w g j cur _ fz hg]
    rw [← htake, List.getElem?_take] at hu
    split at hu
    ·
     simpa using hu
    ·
     cases hu
   have hr := Lib.run_append_grow_string (P := prog) w 131 9 ty 5 i (.int .u8 0) underlying131 underlying9 hi hz ⟨g, 0, none⟩ s.length cap (octs s) (by rw [hsize, octs_length, Nat.mul_one]) holds (bs x) (by rw [bs_size]; omega) (by rw [bs_size]; omega) (by rw [hby, bs_size]; exact growslice_fits (by omega) (by omega))
   rw [bs_size, strCells_bs] at hr
   have hge := grownCap_ge w (s.length + x.length) cap 5
   have hcm2 : grownCap w (s.length + x.length) cap 5 ≤ maxLen := grownCap_le_maxLen w (s.length + x.length) cap _ (by simp only [maxLen]; omega)
   refine ⟨_, _, hr, .inr ⟨w.heap.size, _, _, (0, 0), by rw [List.length_append], hB, heap_alloc_new w.drew _, .inl rfl, by rw [List.length_append]; exact hge, hcm2, ?_, ?_⟩, ⟨rfl, rfl, rfl, by simp, fun k hk _ => Below.heap_alloc w.drew _ k hk⟩⟩
   ·
    have hz1 : (Value.int IntKind.u8 0).cells.size = 1 := rfl
    simp only [Array.size_append, List.size_toArray, size_zeroCells, hz1, octs_length]
    omega
   ·
    simp only [Array.toList_append, List.append_assoc]
    rw [← List.append_assoc, octs_app, List.length_append, ← hlen]
    exact List.take_left
theorem run_toB (w : World) (s : List UInt8) (hl : s.length ≤ maxLen) :
  ∃ A c w', (convert 9 131 (.string (bs s))).run prog w = .ok (.slice A s.length c) w' ∧ OwnB w' w.heap.size (.slice A s.length c) s ∧ Below w.heap.size w w' := by
 have hr := run_bytes_of_string (P := prog) w 9 131 5 (bs s) underlying9 underlying131 underlying5
 rw [bs_size] at hr
 have hge := grownCap_ge w s.length 0 5
 have hcm := grownCap_le_maxLen w s.length 0 5 hl
 generalize grownCap w s.length 0 5 = cap at *
 have hbr : (bytesRow (bs s) cap).size = cap := by simp [bytesRow, bs, ByteArray.size]; omega
 refine ⟨_, _, _, hr, .inr ⟨w.heap.size, cap, _, _, rfl, Nat.le_refl _, heap_alloc_new w.drew _, .inr (by simp), hge, hcm, hbr, ?_⟩, ((Below.refl _ _).drew).alloc (Nat.le_refl _) _⟩
 have e1 : (bytesRow (bs s) cap).toList = octs s ++ List.replicate (cap - s.length) (.int .u8 0) := by
  simp [bytesRow, bs, octs, ByteArray.size]
 rw [e1]
 exact List.take_left' (octs_length s)
theorem OwnB.str {w : World} {B : Nat} {v : Value} {s : List UInt8} (h : OwnB w B v s) : (convert 131 9 v).run prog w = .ok (.string (bs s)) w := by
 rcases h with ⟨rfl, rfl⟩ | ⟨g, cap, cur, fz, rfl, hB, hh, _, _, _, _, ht⟩
 ·
  kernel_rfl
 ·
  refine run_convert_bytes_back w 131 9 5 ⟨g, 0, none⟩ cap s underlying131 underlying5 underlying9 ?_
  intro j hj
  have hadd : (⟨g, 0, none⟩ : Addr).add j = ⟨g, j, none⟩ := by unfold Addr.add; split <;> simp_all
  rw [hadd, cell_of_row w g j cur _ fz hh]
  have e : cur.toList[j]? = (cur.toList.take s.length)[j]? := by rw [List.getElem?_take_of_lt hj]
  rw [show cur[j]? = cur.toList[j]? by simp, e, ht, octs_get s j hj]
theorem wpList_appB' (w : World) {ops : Array Oper} {rest : List Oper} {o : Oper} {a : Act} {Q : Exit → Act → World → Prop} (hgd : o.guard = none) (sl x : Operand)
  (ho : o.op = .call { callee := .builtin .append, args := #[sl, x], argTypes := #[131, 9] })
  (B : Nat) (v : Value) (q s : List UInt8) (hs : a.eval sl = v) (hown : OwnB w B v q) (hB : B ≤ w.heap.size) (hx : a.eval x = .string (bs s)) (hl : q.length + s.length ≤ 140737488355328)
  (h : ∀ A c w', OwnB w' B (.slice A (q ++ s).length c) (q ++ s) → w.grownBy w' v.ownBlock → wpList prog ops Q rest (a.put o.dst (.slice A (q ++ s).length c)) w') :
  wpList prog ops Q (o :: rest) a w := by
 refine wpList_plain hgd fun K hK => ?_
 obtain ⟨v', w', hr, h2, h3⟩ := run_appB w o.type B v q s hown hB hl
 obtain ⟨A, c, rfl⟩ := h2.form
 unfold Oper.wp execOp
 simp only [ho, resolve, invoke, builtin, Sem.run_bind, Sem.run_pure, Result.andThen_ok, List.map_toArray, List.map_cons, List.map_nil, hs, hx, hr]
 exact hK _ _ (h A c w' h2 h3)
end Go.Proofs.YteimenplbanooaaGreatDoor
