/-
  Layer 5 (domain) and its reference, as far as the wire wants them: sizes and checks of names; Few, Exact.
-/
import Derived.Test.YthnbcmlnpdabhaaGreatGAq
import Derived.Lib.AppendStr
import Derived.Deep.MidRow
namespace Go.Proofs.YthnbcmlnpdabhaaGreat
open _root_.Go.Proofs.Tryz
open Go.RowKit
set_option maxRecDepth 100000
set_option linter.unusedVariables false
theorem I8 (n : List (List UInt8)) (h : ∀ l ∈ n, l.length <= 63) : oC n <= 64 * n.length := by
 induction n with
 | nil => simp [oC]
 | cons l n ih => have h1 := h l (List.mem_cons_self ..);have h2 := ih (fun x hx => h x (List.mem_cons_of_mem _ hx));simp [oC]; omega
theorem L6 (A : Option Addr) (c : Nat) (n : List (List UInt8)) (w : World) (hA : vz w A n) (hm : n.length <= 281474976710656) (hs : oC n <= 4611686018427387904) :
  Calls prog 221 #[.slice A n.length c] w (rN (.int .i64 (1 + oC n)) w) := by
 go_enter func221, ntmps221;go_wp2_with fail;go_loop [3, 8] (fun z i => ∃ k : Nat, k <= n.length /\ i = .int .i64 k /\ z = .int .i64 (1 + oC (n.take k))) (fun _ i => n.length - (intOf i).toNat)
 case atStart => exact ⟨0, Nat.zero_le _, rfl, rfl⟩
 case round =>
  obtain ⟨k, hk, rfl, rfl⟩ := hrel;have hb := qL n k;by_cases hlt : k < n.length
  ·
   have hlt' : (k : Int) < n.length := ak;obtain ⟨b, off, rfl, _, xa⟩ := hA ak;have c1 := xa k hlt;have S := Hh (yt n k hlt);have hb2 := qL n (k + 1);rw [S.out] at hb2;clear xa;go_wp2_with fail;go_round
   case rel => exact ⟨k + 1, ak, eh, by rw [S.out]; go_num⟩
   case measure => simp [intOf]; omega
  ·have hlt' : ¬ (k : Int) < n.length := ak;go_wp2_with fail;go_ret;exact rN.mk (ru dV) rfl
theorem I9 (n : List (List UInt8)) (k : Nat) (h : k < n.length) (hb : xf n[k] = true) : nH n = 7 := by
 unfold nH;rw [if_pos (List.any_eq_true.2 ⟨n[k], List.getElem_mem h, hb⟩)]
theorem Gi (n : List (List UInt8)) (h : ∀ j (hj : j < n.length), xf n[j] = false) : nH n = if 255 < 1 + oC n then 3 else 0 := by
 unfold nH;rw [if_neg];intro h';obtain ⟨l, hl, hb⟩ := List.any_eq_true.1 h';obtain ⟨j, hj, rfl⟩ := List.getElem_of_mem hl;rw [h j hj] at hb; cases hb
theorem L7 {n : List (List UInt8)} (h : ∀ j (hj : j < n.length), xf n[j] = false) : ∀ l ∈ n, l.length <= 63 := by
 intro l hl;obtain ⟨j, hj, rfl⟩ := List.getElem_of_mem hl;have := h j hj;simp [xf] at this;omega
theorem rP (A : Option Addr) (c : Nat) (n : List (List UInt8)) (w : World) (hA : vz w A n) (hm : n.length <= 281474976710656) :
  Calls prog 184 #[.slice A n.length c] w (rN (.int .i64 (nH n)) w) := by
 go_enter func184, ntmps184;go_wp2_with fail;go_loop [7] (fun i => ∃ k : Nat, k <= n.length /\ i = .int .i64 k /\ Hid (∀ j (hj : j < n.length), j < k -> xf n[j] = false)) (fun i => n.length - (intOf i).toNat)
 case atStart => exact ⟨0, Nat.zero_le _, rfl, Hh (fun j hj h => by omega)⟩
 case round =>
  obtain ⟨k, hk, rfl, H⟩ := hrel;by_cases hlt : k < n.length
  ·
   have hlt' : (k : Int) < n.length := ak;obtain ⟨b, off, rfl, _, xa⟩ := hA ak;have c1 := xa k hlt;clear xa;cases hbd : xf n[k] with
   | true =>
    have R := Hh (I9 n k hlt hbd);by_cases h0 : n[k] = []
    ·have e1 : (n[k] == []) = true := aO;have e2 : n[k].isEmpty = true := aO;exact mO
    ·
     have hpos : 0 < n[k].length := List.length_pos_iff.2 h0;have hbig : (63 : Int) < n[k].length := by
      simp [xf] at hbd;rcases hbd with h | h
      ·exact absurd h h0
      ·omega
     have e1 : (n[k] == []) = false := aO;have e2 : n[k].isEmpty = false := aO;exact mO
   | false =>
    have hl1 : 1 <= n[k].length /\ n[k].length <= 63 := by simp [xf] at hbd;have := hbd.1;have : 0 < n[k].length := List.length_pos_iff.2 this;omega
    have hb63 : (n[k].length : Int) <= 63 := ak;have h0 : n[k] ≠ [] := List.length_pos_iff.1 ak;have e1 : (n[k] == []) = false := aO;have e2 : n[k].isEmpty = false := aO;have HB := Hh hbd;clear h0 hbd;exact kS
  ·
   have hlt' : ¬ (k : Int) < n.length := ak;have hall : ∀ j (hj : j < n.length), xf n[j] = false := fun j hj => H.out j hj ak
   have R := Gi n hall;have hbd := I8 n (L7 hall);clear hall H;by_cases h3 : 255 < 1 + oC n
   ·have h3' : (255 : Int) < 1 + (oC n : Int) := ak;rw [if_pos h3] at R;exact kZ
   ·have h3' : 1 + (oC n : Int) <= 255 := ak;rw [if_neg h3] at R;exact kZ
theorem RJ (A : Option Addr) (c : Nat) (n : List (List UInt8)) (w : World) (hA : vz w A n) (hm : n.length <= 281474976710656) (hl : ∀ l ∈ n, l.length <= 281474976710656) :
  Calls prog 14 #[.slice A n.length c] w (rN (.bool (decide (oC n <= 400))) w) := by
 have HL := Hh hl;clear hl;go_enter func14, ntmps14;go_wp2_with fail;go_loop [3, 4] (fun z i => ∃ k : Nat, k <= n.length /\ i = .int .i64 k /\ z = .int .i64 (oC (n.take k)) /\ oC (n.take k) <= 400) (fun _ i => n.length - (intOf i).toNat)
 case atStart => exact ⟨0, Nat.zero_le _, rfl, rfl, by simp [oC]⟩
 case round =>
  obtain ⟨k, hk, rfl, rfl, hb⟩ := hrel;by_cases hlt : k < n.length
  ·
   have hlt' : (k : Int) < n.length := ak;obtain ⟨b, off, rfl, _, xa⟩ := hA ak;have c1 := xa k hlt;have S := Hh (yt n k hlt);have hle := HL.out n[k] (List.getElem_mem hlt);clear xa;by_cases hbig : oC (n.take k) + (n[k].length + 1) <= 400
   ·
    have hb' : (oC (n.take k) : Int) + n[k].length + 1 <= 400 := ak;go_wp2_with fail;go_round
    case rel => exact ⟨k + 1, ak, eh, by rw [S.out]; go_num, by rw [S.out]; exact hbig⟩
    case measure => simp [intOf]; omega
   ·
    have hb' : 400 < (oC (n.take k) : Int) + n[k].length + 1 := ak;have hno : decide (oC n <= 400) = false := by have := qL n (k + 1);rw [S.out] at this;exact decide_eq_false ak
    have R := Hh hno;clear hno;go_wp2_with fail;go_ret;exact rN.mk (sd R.out.symm) rfl
  ·
   have hlt' : ¬ (k : Int) < n.length := ak;have R : decide (oC n <= 400) = true := by rw [List.take_of_length_le ak] at hb;exact decide_eq_true hb
   have RR := Hh R;clear R;go_wp2_with fail;go_ret;exact rN.mk (sd RR.out.symm) rfl
theorem wC (A B : Option Addr) (a b : List (List UInt8)) (ca cb : Nat) (w : World) (hA : vz w A a) (hB : vz w B b) (hm : a.length <= 281474976710656) (hm2 : b.length <= 281474976710656) :
  Calls prog 101 #[.slice A a.length ca, .slice B b.length cb] w (nM (.bool (decide (a = b))) w) := by
 go_enter func101, ntmps101;go_wp2_with fail;refine (Ol A B a b ca cb _ hA hB hm hm2).mono ?_;rintro e w1 ⟨rfl, b1⟩;go_wp2_with fail;go_ret;exact nM.mk rfl b1
theorem sf {w : World} {B : Nat} {e : TypeId} {size n : Nat} {v : Value} {xs : List Value} (h : w.ownsRow B e size v n xs) : ∀ k, v.ownBlock = some k -> B <= k := fun k hk => (h.lt k hk).1
theorem xJ {w w' : World} {B B' : Nat} {e e' : TypeId} {s s' n n' : Nat} {v v' : Value} {xs xs' : List Value} (h : w.ownsRow B e s v n xs) (h' : w.ownsRow B' e' s' v' n' xs') (hne : e ≠ e') (hg : w.grownBy w' v'.ownBlock) : w'.ownsRow B e s v n xs := by
 refine h.kept hg ?_;rcases h.2 with ⟨rfl, _⟩ | ⟨g, cap, cur, rfl, _, hh, _⟩
 ·exact .inl rfl
 ·
  right;intro hb;rcases h'.2 with ⟨rfl, _⟩ | ⟨g', cap', cur', rfl, _, hh', _⟩
  ·simp [Value.ownBlock] at hb
  ·
   have : g = g' := by simpa [Value.ownBlock] using hb
   subst this;rw [hh] at hh';injection hh' with hh';injection hh' with _ ht;exact hne ht
theorem pC {w w' : World} {B : Nat} {e : TypeId} {s n : Nat} {v : Value} {xs : List Value} (h : w.ownsRow B e s v n xs) (hb : Below w.heap.size w w') : w'.ownsRow B e s v n xs := by
 refine World.ownsRow.kept h (nG hb none) ?_;cases hv : v.ownBlock with
 | none => exact .inl rfl
 | some g => exact .inr ag
theorem pE {w w' : World} {B : Nat} {e t : TypeId} {s n g : Nat} {v : Value} {xs cs : List Value} (hb : nj w g t cs) (h : w.ownsRow B e s v n xs) (hne : t ≠ e) (hg : w.grownBy w' v.ownBlock) : nj w' g t cs := by
 refine hb.grown hg ?_;rcases h.2 with ⟨rfl, _⟩ | ⟨g', cap, cur, rfl, _, hh, _⟩
 ·simp [Value.ownBlock]
 ·intro he;have : g = g' := gH;exact lX
theorem sT {w : World} {B : Nat} {e : TypeId} {s n : Nat} {v : Value} {xs : List Value} (h : w.ownsRow B e s v n xs) : ∃ A c, v = .slice A n c := by
 rcases h.2 with ⟨rfl, rfl⟩ | ⟨g', cap, cur, rfl, _⟩
 ·exact ⟨none, 0, rfl⟩
 ·exact ⟨_, cap, rfl⟩
theorem ry {B : Nat} {w0 w w' : World} {e : TypeId} {s n : Nat} {v : Value} {xs : List Value} (hb : Below B w0 w) (hB : B <= w.heap.size) (h : w.ownsRow B e s v n xs) (hg : w.grownBy w' v.ownBlock) : Below B w0 w' := hb.grown hg hB (sf h)
theorem yP {P : Program} (w : World) {ops : Array Oper} {rest : List Oper} {o : Oper} {a : Act} {Q : Exit -> Act -> World -> Prop} (hgd : o.guard = none) (s x : Operand) (t : TypeId)
  (ho : o.op = .call { callee := .builtin .append, args := #[s, x], argTypes := #[t, t] })
  (e : TypeId) (z : Value) (size bytes : Nat) (ht : P.underlying t = some (.slice e)) (hi : (P.info? e).map (fun i => (i.zero, i.size, i.bytes)) = some (some z, size, bytes)) (hzs : z.cells.size = size) (hsz : 0 < size)
  (B : Nat) (v : Value) (n : Nat) (xs : List Value) (hs : a.eval s = v) (hown : w.ownsRow B e size v n xs) (hB : B <= w.heap.size)
  (ad : Addr) (m c : Nat) (news : List Value) (hx : a.eval x = .slice (some ad) m c) (hl : news.length = m * size) (hnews : ∀ j u, news[j]? = some u -> w.cell? (ad.add j) = some u) (h1 : ∀ u ∈ news, u.oneCell' = true)
  (hm : 0 < m) (h63 : n + m <= maxLen) (hbytes : (n + m) * bytes <= 140737488355328)
  (h : ∀ g cap w', w'.ownsRow B e size (.slice (some ⟨g, 0, none⟩) (n + m) cap) (n + m) (xs ++ news) -> w.grownBy w' v.ownBlock -> g < w'.heap.size -> wpList P ops Q rest (a.put o.dst (.slice (some ⟨g, 0, none⟩) (n + m) cap)) w') :
  wpList P ops Q (o :: rest) a w := by
 obtain ⟨i, hi, hz, hsize, hby⟩ := info_parts hi;refine wpList_append_own_at w hgd s x t ho B e i z size bytes ht hi hz hsize hby hzs hsz v n xs hs hown ad m c news hx hl hnews h1 h63 hbytes hB ?_;intro v' w' hown' hg _ hat;obtain ⟨g, cap, rfl⟩ : ∃ g cap, v' = .slice (some ⟨g, 0, none⟩) (n + m) cap := by exact mf
 exact h g cap w' hown' hg (hown'.lt g rfl).2
theorem ue (l : List UInt8) : Lib.strCells (bs l) = oM l := by
 simp [Lib.strCells, oM, bs]
theorem Gj (w : World) {ops : Array Oper} {rest : List Oper} {o : Oper} {a : Act} {Q : Exit -> Act -> World -> Prop} (hgd : o.guard = none) (sl x : Operand)
  (ho : o.op = .call { callee := .builtin .append, args := #[sl, x], argTypes := #[145, 9] })
  (B : Nat) (v : Value) (q s : List UInt8) (hs : a.eval sl = v) (hown : w.ownsRow B 5 1 v q.length (oM q)) (hB : B <= w.heap.size) (hx : a.eval x = .string (bs s)) (hl : q.length + s.length <= 140737488355328)
  (h : ∀ A c w', w'.ownsRow B 5 1 (.slice A (q ++ s).length c) (q ++ s).length (oM (q ++ s)) -> w.grownBy w' v.ownBlock -> wpList prog ops Q rest (a.put o.dst (.slice A (q ++ s).length c)) w') :
  wpList prog ops Q (o :: rest) a w := by
 obtain ⟨i, hi, hz, hsize, hby⟩ := info_parts xH;refine Lib.wpList_append_own_string w hgd sl x _ _ ho B 5 i underlying145 underlying9 hi hz hsize hby v q.length (oM q) hs hown (bs s) hx (by rw [qo]; simp only [maxLen]; omega) (by rw [qo]; exact hl) hB ?_;intro v' w' hown' hg _;rw [qo, ue, <- uA, <- List.length_append] at hown';obtain ⟨A, c, rfl⟩ := sT hown';exact h A c w' hown' hg
theorem nj.range {w : World} {g : Nat} {t : TypeId} {L : List Value} (h : nj w g t L) (o n : Nat) (hn : o + n <= L.length) : w.rangeAt g o ((L.drop o).take n) := by
 intro j v hv;rw [h.cell (o + j)];obtain ⟨hj, he⟩ := List.getElem?_eq_some_iff.1 hv;have hj' : j < n := iX;rw [List.getElem?_take_of_lt hj'] at hv;rw [List.getElem?_drop] at hv;exact hv
theorem nj.there {w : World} {g : Nat} {t : TypeId} {L : List Value} (h : nj w g t L) (o n : Nat) (hn : o + n <= L.length) : w.there g o n := by
 intro j hj;refine ⟨?_, h.frozen _⟩;rw [h.cell (o + j), List.getElem?_eq_getElem ak]; rfl
theorem nj.setCells {w : World} {g : Nat} {t : TypeId} : ∀ (vs : List Value) (L : List Value) (o : Nat) {w : World}, nj w g t L -> o + vs.length <= L.length -> nj (w.setCells g o vs) g t (L.take o ++ vs ++ L.drop (o + vs.length))
 | [], L, o, w, h, _ => by simpa [World.setCells] using h
 | v :: vs, L, o, w, h, hl => by
  rw [World.setCells];have h1 := nj.setCells (w := w) (g := g) (t := t) vs (L.set o v) (o + 1) (h.set o v) aq;have hol : o < L.length := by simp at hl; omega
  have e : (L.set o v).take (o + 1) ++ vs ++ (L.set o v).drop (o + 1 + vs.length) = L.take o ++ v :: vs ++ L.drop (o + (v :: vs).length) := by
   rw [List.take_succ_eq_append_getElem (by simpa using hol)];have a1 : (L.set o v).take o = L.take o := by rw [List.take_set]; exact List.set_eq_of_length_le al
   have a2 : (L.set o v).drop (o + 1 + vs.length) = L.drop (o + 1 + vs.length) := List.drop_set_of_lt ak;rw [a1, a2];simp [Nat.add_assoc, Nat.add_comm 1]
  rw [e] at h1;exact h1
theorem uo : ∀ (vs : List Value) (w : World) (g o : Nat), (w.setCells g o vs).heap.size = w.heap.size
 | [], _, _, _ => rfl
 | v :: vs, w, g, o => by rw [World.setCells, uo vs]; simp [World.setCell]
theorem tR : ∀ (vs : List Value) {a w : World} {g o : Nat}, a.grownBy w (some g) -> a.grownBy (w.setCells g o vs) (some g)
 | [], a, w, g, o, h => h
 | v :: vs, a, w, g, o, h => by rw [World.setCells]; exact tR vs (nT h o v)
theorem nh {P : Program} {ops : Array Oper} {rest : List Oper} {o : Oper} {a : Act} {w : World} {Q : Exit -> Act -> World -> Prop} (p : Op) (_ : o.op = p) (h : wpList P ops Q (o :: rest) a w) : wpList P ops Q (o :: rest) a w := h
theorem ni {P : Program} {ops : Array Oper} {rest : List Oper} {op : Oper} {a : Act} {w : World} {Q : Exit -> Act -> World -> Prop} (hgd : op.guard = none) (ty : TypeId) (x : Operand) (ho : op.op = .load ty x)
  (g o : Nat) (hx : a.eval x = .pointer (some ⟨g, o, none⟩)) {t : TypeId} {L : List Value} (hb : nj w g t L) (n : Nat) (hn : o + n <= L.length) (d : TypeDesc)
  (hu : P.underlying ty = some d) (hd : d.isRow = true) (hi : (P.info? ty).map (·.size) = some n) (sub : List Value) (hsub : (L.drop o).take n = sub)
  (h : wpList P ops Q rest (a.put op.dst (.agg sub.toArray)) w) : wpList P ops Q (op :: rest) a w := by
 have hl : sub.length = n := ic;refine wpList_load_mid hgd ty x ho g o hx sub d (hsub ▸ hb.range o n hn) hu hd ar h
theorem Ja {P : Program} {ops : Array Oper} {rest : List Oper} {op : Oper} {a : Act} {w : World} {Q : Exit -> Act -> World -> Prop} (hgd : op.guard = none) (ty : TypeId) (x y : Operand) (ho : op.op = .store ty x y)
  (g o : Nat) (hx : a.eval x = .pointer (some ⟨g, o, none⟩)) (sub : List Value) (hy : a.eval y = .agg sub.toArray) {t : TypeId} {L : List Value} (hb : nj w g t L) (hn : o + sub.length <= L.length)
  (hi : (P.info? ty).map (·.size) = some sub.length) (h1 : ∀ v ∈ sub, v.oneCell' = true)
  (h : ∀ w', nj w' g t (L.take o ++ sub ++ L.drop (o + sub.length)) -> w.grownBy w' (some g) -> w'.heap.size = w.heap.size -> wpList P ops Q rest (a.put op.dst undef) w') : wpList P ops Q (op :: rest) a w := by
 refine wpList_store_mid hgd ty x y ho g o sub.toArray hx hy av aw (all_oneCell_toArray h1) ?_;exact h _ (nj.setCells (w := w) sub L o hb hn) (tR sub (World.grownBy.refl _ _)) (uo sub w g o)
theorem ab {P : Program} {ops : Array Oper} {rest : List Oper} {op : Oper} {a : Act} {w : World} {Q : Exit -> Act -> World -> Prop} {ty : TypeId} {x y : Operand} (ho : op.op = .store ty x y) (g o : Nat) (sub : List Value) {t : TypeId} {L : List Value} (hb : nj w g t L) (hn : o + sub.length <= L.length) (hi : (P.info? ty).map (·.size) = some sub.length) (h1 : ∀ v ∈ sub, v.oneCell' = true) (h : ∀ w', nj w' g t (L.take o ++ sub ++ L.drop (o + sub.length)) -> w.grownBy w' (some g) -> w'.heap.size = w.heap.size -> wpList P ops Q rest (a.put op.dst undef) w') (hgd : op.guard = none := by exact rfl) (hx : a.eval x = .pointer (some ⟨g, o, none⟩) := by exact rfl) (hy : a.eval y = .agg sub.toArray := by exact rfl) : wpList P ops Q (op :: rest) a w := Ja hgd ty x y ho g o hx sub hy hb hn hi h1 h
theorem nj.pF {P : Program} {w : World} {g : Nat} {t : TypeId} {L : List Value} (hb : nj w g t L) (ty : TypeId) (o n : Nat) (hn : o + n <= L.length) (d : TypeDesc) (hu : P.underlying ty = some d) (hd : d.isRow = true) (hi : (P.info? ty).map (·.size) = some n) (sub : List Value) (hsub : (L.drop o).take n = sub) :
  (Instr.loadAt ty (.pointer (some ⟨g, o, none⟩))).run P w = .ok (.agg sub.toArray) w := by
 have hl : sub.length = n := ic;exact run_loadAt_mid w g o ty sub d (hsub ▸ hb.range o n hn) hu hd ar
theorem oP {P : Program} {fn : Func} {R : Ending -> World -> Prop} {a : Act} {w : World} {p : Tmp} {ty : TypeId} (hr : fn.results = #[.cell p ty]) (g : Nat) (hp : a.tmps.getD p undef = .pointer (some ⟨g, 0, none⟩)) {t : TypeId} {L : List Value} (hb : nj w g t L)
  (d : TypeDesc) (hu : P.underlying ty = some d) (hd : d.isRow = true) (hi : (P.info? ty).map (·.size) = some L.length) (hdf : a.defers = []) (h : R (.returned (.agg L.toArray)) w) : bodyPost P fn R .ret a w := by
 refine bodyPost_ret (v := .agg L.toArray) (results_cell_row hr a.tmps w g t L.toArray (0, 0) d hp hb hu ?_ aw) hdf h;cases d <;> first | rfl | cases hd
theorem oF {P : Program} {fn : Func} {R : Ending -> World -> Prop} {a : Act} {w : World} {p u : Tmp} {ty : TypeId} (hr : fn.results = #[.cell p ty, .tmp u]) (g : Nat) (hp : a.tmps.getD p undef = .pointer (some ⟨g, 0, none⟩)) {t : TypeId} {L : List Value} (hb : nj w g t L)
  (d : TypeDesc) (hu : P.underlying ty = some d) (hd : d.isRow = true) (hi : (P.info? ty).map (·.size) = some L.length) (hdf : a.defers = []) (v : Value) (hv : a.tmps.getD u undef = v) (h : R (.returned (.tuple #[.agg L.toArray, v])) w) : bodyPost P fn R .ret a w := by
 refine bodyPost_ret (v := .tuple #[.agg L.toArray, v]) ?_ hdf h;rw [results_cell_tmp hr, hp];have hl := run_loadVar_row (P := P) w g t ty L.toArray (0, 0) d hb hu ax aw;simp [asAddr, hl, hv]
theorem vG : ∀ (xs ys : List Int), xs.length = ys.length -> ((List.range xs.length).all fun i => xs.getD i 0 == ys.getD i 0) = (xs == ys)
 | [], [], _ => rfl
 | x :: xs, y :: ys, h => by
  have ih := vG xs ys ah;rw [List.length_cons, List.range_succ_eq_map, List.all_cons, List.all_map];simp only [List.getD_cons_zero, Function.comp_def, List.getD_cons_succ, ih];simp [List.cons_beq_cons]
 | [], _ :: _, h => by simp at h
 | _ :: _, [], h => by simp at h
theorem rz {P : Program} (w : World) (d : Nat) (t e : TypeId) (n : Nat) (k : IntKind) (ht : P.underlying t = some (.array n e)) (he : P.underlying e = some (.int k)) (hsz : ∀ w, (sizeOf e).run P w = .ok 1 w)
  (xs ys : List Int) (hx : xs.length = n) (hy : ys.length = n) :
  (Op.equalIn (d + 2) t (.agg (xs.map (Value.int k)).toArray) (.agg (ys.map (Value.int k)).toArray)).run P w = .ok (xs == ys) w := by
 rw [<- vG xs ys (hx.trans hy.symm), hx, List.range_eq_range', Op.equalIn];simp only [Sem.run_bind, run_underlying ht, Result.andThen_ok, hsz, Std.Legacy.Range.forIn_eq_forIn_range', Std.Legacy.Range.size, Nat.sub_zero, Nat.add_sub_cancel, Nat.div_one];have hl : ∀ i ∈ List.range' 0 n 1, i < n := fun i hi => by simpa using (List.mem_range'_1.1 hi).2
 generalize List.range' 0 n 1 = l at hl ⊢;induction l with
 | nil => simp
 | cons i l ih =>
  have hi : i < n := hl i ag;have px : (part e (xs.map (Value.int k)).toArray (i * 1)).run P w = .ok (.int k (xs.getD i 0)) w := by simp [part, isAgg, run_underlying he, List.getD, List.getElem?_eq_getElem (show i < xs.length by omega)]
  have py : (part e (ys.map (Value.int k)).toArray (i * 1)).run P w = .ok (.int k (ys.getD i 0)) w := by simp [part, isAgg, run_underlying he, List.getD, List.getElem?_eq_getElem (show i < ys.length by omega)]
  have pe : (Op.equalIn (d + 1) e (.int k (xs.getD i 0)) (.int k (ys.getD i 0))).run P w = .ok (xs.getD i 0 == ys.getD i 0) w := by rw [run_equalIn_int w d e k k _ _ he]
  simp only [List.forIn_cons, Sem.run_bind, px, py, pe, Result.andThen_ok, List.all_cons];cases hb : (xs.getD i 0 == ys.getD i 0)
  ·simp
  ·simp only [Bool.not_true, Bool.false_eq_true, if_false, Sem.run_pure, Result.andThen_ok, Bool.true_and];exact ih fun j hj => hl j (by simp [hj])
theorem Gk (w : World) : (sizeOf 3).run prog w = .ok 1 w := by kernel_rfl
section
variable {P : Program} {ops : Array Oper} {C : World -> Prop} {Q : Act -> Prop} {rest : List Oper} {o : Oper} {a : Act}
theorem nS {v : Value} (hw : Region.wanted o (yielded ops a.tmps) = true) (hv : ∀ w, C w -> (execOp a.eval o).run P w = .ok (.value v) w) (h : wpQuiet P ops C Q rest (a.put o.dst v)) : wpQuiet P ops C Q (o :: rest) a := by
 unfold wpQuiet;rw [if_pos hw];refine ⟨v, fun w hC => ?_, h⟩;unfold Oper.quietAt;rw [hv w hC];exact ⟨rfl, rfl⟩
theorem pI {v : Value} (ty : TypeId) (x : Operand) (ho : o.op = .load ty x) (p : Addr) (hx : a.eval x = .pointer (some p)) (hw : Region.wanted o (yielded ops a.tmps) = true)
  (hv : ∀ w, C w -> (Instr.loadAt ty (.pointer (some p))).run P w = .ok v w) (h : wpQuiet P ops C Q rest (a.put o.dst v)) : wpQuiet P ops C Q (o :: rest) a := by
 refine nS hw (fun w hC => ?_) h;exact mi
theorem rA {v : Value} (f : FuncId) (vs : Array Value) (hw : Region.wanted o (yielded ops a.tmps) = true) (hr : ∀ w, (execOp a.eval o).run P w = .ok (.enter f vs) w)
  (hc : ∀ w, C w -> Calls P f vs w fun e w' => e = .returned v /\ C w') (h : wpQuiet P ops C Q rest (a.put o.dst v)) : wpQuiet P ops C Q (o :: rest) a := by
 unfold wpQuiet;rw [if_pos hw];refine ⟨v, fun w hC => ?_, h⟩;unfold Oper.quietAt;rw [hr w];exact ⟨rfl, hc w hC⟩
theorem rH {id : Nat} {Q' : Exit -> Act -> World -> Prop} {W : World} {l : List Oper} (hm : P.follows .mixedOrders = true) (hB : Region.lexB .any l.toArray = true)
  (h : wpQuiet P l.toArray (fun w' => Below W.heap.size W w') (fun a' => ∀ w', Below W.heap.size W w' -> Q' .normal a' w') l a) : (Code.region id l.toArray true).wp P Q' a W :=
 wp_region_quiet (C := fun w' => Below W.heap.size W w') hm hB ((Below.refl _ _).drew) ah
end
theorem nM.xK {P : Program} {f : FuncId} {args : Array Value} {v : Value} {W w : World} (hw : Below W.heap.size W w) (h : Calls P f args w (nM v w)) : Calls P f args w fun e w' => e = .returned v /\ Below W.heap.size W w' :=
 h.mono fun _ _ ⟨he, hb⟩ => ⟨he, nc hw hw.size hb⟩
theorem nN {P : Program} {w : World} {p : Addr} {v : Value} {ty : TypeId} {d : TypeDesc} (hu : P.underlying ty = some d) (hd : d.isRow = false) (hc : w.cell? p = some v) : (Instr.loadAt ty (.pointer (some p))).run P w = .ok v w := by
 have hagg : (isAgg ty).run P w = .ok false w := by unfold isAgg;rw [Sem.run_bind, run_underlying hu w];cases d <;> simp_all
 simp only [Instr.loadAt, Instr.sureAddr, Sem.run_bind, Sem.run_pure, Result.andThen_ok, loadVar, hagg];simp [hc, go_sem]
set_option linter.unusedSimpArgs false
section
variable {P : Program} {ops : Array Oper} {S : World -> Prop} {Q : Exit -> Act -> World -> Prop} {o : Oper} {a : Act} {w : World} {fuel : Nat} {listed : Array Bool}
theorem nF (i : Nat) (d : Option Tmp) {v : Value} (hi : ops[i]? = some o) (hd : o.dst = d) (hs : Region.noSelect ops = true) (hf : Region.free .any ops listed i = true) (hr : (Region.ready .any ops listed).contains i = true)
  (hQ : ∀ c a w, Q (.panic c) (a.put d v) w -> Q (.panic c) a w) (hw : Region.wanted o (yielded ops a.tmps) = true) (hv : ∀ w, S w -> (execOp a.eval o).run P w = .ok (.value v) w) (hS : S w)
  (h : wpAnyH P .any ops Q S fuel (listed.setIfInBounds i true) (a.put d v) w) : wpAnyH P .any ops Q S (fuel + 1) listed a w :=
 by subst hd; exact wpAnyH_take hi hs hf hr hQ (.inl ⟨hw, hv⟩) hS h
theorem qf (i : Nat) (d : Option Tmp) {v : Value} (ty : TypeId) (x : Operand) (p : Addr) (hi : ops[i]? = some o) (hd : o.dst = d) (ho : o.op = .load ty x) (hx : a.eval x = .pointer (some p)) (hs : Region.noSelect ops = true) (hf : Region.free .any ops listed i = true) (hr : (Region.ready .any ops listed).contains i = true)
  (hQ : ∀ c a w, Q (.panic c) (a.put d v) w -> Q (.panic c) a w) (hw : Region.wanted o (yielded ops a.tmps) = true) (hv : ∀ w, S w -> (Instr.loadAt ty (.pointer (some p))).run P w = .ok v w) (hS : S w)
  (h : wpAnyH P .any ops Q S fuel (listed.setIfInBounds i true) (a.put d v) w) : wpAnyH P .any ops Q S (fuel + 1) listed a w := by
 refine nF i d hi hd hs hf hr hQ hw (fun w hC => ?_) hS h;exact mi
theorem oY (i : Nat) (d : Option Tmp) (f : FuncId) (vs : Array Value) (hr : Region.ready .any ops listed = [i]) (hi : ops[i]? = some o) (hd : o.dst = d) (hw : Region.wanted o (yielded ops a.tmps) = true) (he : (execOp a.eval o).run P w = .ok (.enter f vs) w)
  {R : Ending -> World -> Prop} (hc : Calls P f vs w R) (h : ∀ e w', R e w' -> ∃ v, e = .returned v /\ S w' /\ wpAnyH P .any ops Q S fuel (listed.setIfInBounds i true) (a.put d v) w') : wpAnyH P .any ops Q S (fuel + 1) listed a w := by
 subst hd;refine wpAnyH_all hr ag fun j hj => ?_
 rw [List.mem_singleton] at hj;subst hj;unfold wpOp;simp only [hi, hw, if_true];left;unfold Oper.wp;rw [he];simp only [Oper.upon];refine hc.mono fun e w' hR => ?_
 obtain ⟨v, rfl, hS, h'⟩ := h e w' hR;exact ⟨hS, h'⟩
theorem vH (i : Nat) (d : Option Tmp) (hr : Region.ready .any ops listed = [i]) (hi : ops[i]? = some o) (hd : o.dst = d) (hw : Region.wanted o (yielded ops a.tmps) = true) {v : Value} {w' : World} (he : (execOp a.eval o).run P w = .ok (.value v) w') (hS : S w')
  (h : wpAnyH P .any ops Q S fuel (listed.setIfInBounds i true) (a.put d v) w') : wpAnyH P .any ops Q S (fuel + 1) listed a w := by
 exact lj
theorem L8 (i : Nat) (d : Option Tmp) (hr : Region.ready .any ops listed = [i]) (hi : ops[i]? = some o) (hd : o.dst = d) (hw : Region.wanted o (yielded ops a.tmps) = true) {w' : World} (he : (execOp a.eval o).run P w = .ok .skip w') (hS : S w')
  (h : wpAnyH P .any ops Q S fuel (listed.setIfInBounds i true) (a.put d undef) w') : wpAnyH P .any ops Q S (fuel + 1) listed a w := by
 exact lj
end
theorem RK {P : Program} {w : World} {g o : Nat} {ty t : TypeId} {L sub : List Value} (hb : nj w g t L) (hn : o + sub.length <= L.length) (hi : (P.info? ty).map (·.size) = some sub.length) (h1 : ∀ v ∈ sub, v.oneCell' = true) :
  (Instr.storeAt ty (.pointer (some ⟨g, o, none⟩)) (.agg sub.toArray)).run P w = .ok () (w.setCells g o sub) :=
 run_storeAt_mid w g o ty sub.toArray av aw (all_oneCell_toArray h1)
theorem pG {P : Program} {ops : Array Oper} {S : World -> Prop} {Q : Exit -> Act -> World -> Prop} {o : Oper} {a : Act} {w : World} {fuel : Nat} {listed : Array Bool} (i : Nat) (d : Option Tmp) (ty : TypeId) (x y : Operand) (hr : Region.ready .any ops listed = [i]) (hi : ops[i]? = some o) (hd : o.dst = d) (ho : o.op = .store ty x y) (hw : Region.wanted o (yielded ops a.tmps) = true)
  (g off : Nat) (hx : a.eval x = .pointer (some ⟨g, off, none⟩)) (sub : List Value) (hy : a.eval y = .agg sub.toArray) {t : TypeId} {L : List Value} (hb : nj w g t L) (hn : off + sub.length <= L.length) (hinf : (P.info? ty).map (·.size) = some sub.length) (h1 : ∀ v ∈ sub, v.oneCell' = true)
  (h : ∀ w', nj w' g t (L.take off ++ sub ++ L.drop (off + sub.length)) -> w.grownBy w' (some g) -> w'.heap.size = w.heap.size -> S w' /\ wpAnyH P .any ops Q S fuel (listed.setIfInBounds i true) (a.put d undef) w') : wpAnyH P .any ops Q S (fuel + 1) listed a w := by
 obtain ⟨h2, h3⟩ := h _ (nj.setCells (w := w) sub L off hb hn) (tR sub (World.grownBy.refl _ _)) (uo sub w g off);refine L8 i d hr hi hd hw ?_ h2 h3;have hst := RK (P := P) hb hn hinf h1;exact mh
theorem Kt {P : Program} {w : World} {g o : Nat} {ty t : TypeId} {L : List Value} {v : Value} (hb : nj w g t L) (hn : o < L.length) (hi : (P.info? ty).map (·.size) = some 1) (h1 : v.oneCell' = true) (hv : v.cells = #[v]) :
  (Instr.storeAt ty (.pointer (some ⟨g, o, none⟩)) v).run P w = .ok () (w.setCell ⟨g, o, none⟩ v) := by
 obtain ⟨i, hi1, hi2⟩ := Option.map_eq_some_iff.1 hi;have hc : w.cell? ⟨g, o, none⟩ = some L[o] := (hb.cell o).trans (List.getElem?_eq_getElem hn);have hf := hb.frozen o;have hst : (store ⟨g, o, none⟩ v).run P w = .ok () (w.setCell ⟨g, o, none⟩ v) := by rw [run_store P w _ v _ h1, hc];simp [hf]
 have hadd : (⟨g, o, none⟩ : Addr).add 0 = ⟨g, o, none⟩ := eU;simp [Instr.storeAt, Instr.sureAddr, storeVar, sizeOf, typeInfo, hi1, hi2, hv, storeCells, hadd, hst]
theorem Jb {P : Program} {ops : Array Oper} {rest : List Oper} {op : Oper} {a : Act} {w : World} {Q : Exit -> Act -> World -> Prop} (hgd : op.guard = none) (ty : TypeId) (x y : Operand) (ho : op.op = .store ty x y)
  (g o : Nat) (hx : a.eval x = .pointer (some ⟨g, o, none⟩)) (v : Value) (hy : a.eval y = v) {t : TypeId} {L : List Value} (hb : nj w g t L) (hn : o < L.length)
  (hi : (P.info? ty).map (·.size) = some 1) (h1 : v.oneCell' = true) (hv : v.cells = #[v])
  (h : ∀ w', nj w' g t (L.set o v) -> w.grownBy w' (some g) -> w'.heap.size = w.heap.size -> wpList P ops Q rest (a.put op.dst undef) w') : wpList P ops Q (op :: rest) a w := by
 refine wpList_plain hgd fun K hK => ?_
 have hst := Kt (P := P) hb hn hi h1 hv;unfold Oper.wp execOp;simp only [ho, hx, hy, Sem.run_bind, hst, Result.andThen_ok, Sem.run_pure];exact hK _ _ (h _ (hb.set o v) (nT (World.grownBy.refl _ _) o v) ay)
theorem af {P : Program} {ops : Array Oper} {rest : List Oper} {op : Oper} {a : Act} {w : World} {Q : Exit -> Act -> World -> Prop} {ty : TypeId} {x y : Operand} (ho : op.op = .store ty x y) (g o : Nat) (v : Value) {t : TypeId} {L : List Value} (hb : nj w g t L) (hn : o < L.length) (hi : (P.info? ty).map (·.size) = some 1) (h : ∀ w', nj w' g t (L.set o v) -> w.grownBy w' (some g) -> w'.heap.size = w.heap.size -> wpList P ops Q rest (a.put op.dst undef) w') (hgd : op.guard = none := by exact rfl) (hx : a.eval x = .pointer (some ⟨g, o, none⟩) := by exact rfl) (hy : a.eval y = v := by exact rfl) (h1 : v.oneCell' = true := by exact rfl) (hv : v.cells = #[v] := by exact rfl) : wpList P ops Q (op :: rest) a w := Jb hgd ty x y ho g o hx v hy hb hn hi h1 hv h
theorem oo {P : Program} {ops : Array Oper} {rest : List Oper} {o : Oper} {a : Act} {w : World} {Q : Exit -> Act -> World -> Prop} (hgd : o.guard = none) (t : TypeId) (parts : Array (Nat × Operand)) (ho : o.op = .build t parts) (pc : Array (Nat × Value)) (hv : parts.map (fun (i, x) => (i, a.eval x)) = pc)
  {v : Value} (hr : (Instr.build t pc).run P w = .ok v w) (h : wpList P ops Q rest (a.put o.dst v) w) : wpList P ops Q (o :: rest) a w := by
 refine wpList_plain hgd fun K hK => ?_
 unfold Oper.wp execOp;simp only [ho, hv, Sem.run_bind, hr, Result.andThen_ok, Sem.run_pure];exact hK _ _ h
theorem rZ : (prog.info? 26).map (·.size) = some 1 := by kernel_rfl
theorem pM : (prog.info? 3).map (·.size) = some 1 := by kernel_rfl
theorem Om : (prog.info? 9).map (·.size) = some 1 := by kernel_rfl
section
variable {P : Program} {ops : Array Oper} {S : World -> Prop} {Q : Exit -> Act -> World -> Prop} {K : Act -> World -> Prop} {o : Oper} {a : Act} {w : World} {fuel : Nat} {listed : Array Bool}
theorem nJ (i : Nat) (hr : Region.ready .any ops listed = [i]) (h : wpOp P ops Q i (fun a' w' => S w' /\ wpAnyH P .any ops Q S fuel (listed.setIfInBounds i true) a' w') a w) : wpAnyH P .any ops Q S (fuel + 1) listed a w := by
 refine wpAnyH_all hr ag fun j hj => ?_
 rw [List.mem_singleton] at hj;subst hj;exact h
theorem qM (i j : Nat) (hr : Region.ready .any ops listed = [i, j]) (h1 : wpOp P ops Q i (fun a' w' => S w' /\ wpAnyH P .any ops Q S fuel (listed.setIfInBounds i true) a' w') a w) (h2 : wpOp P ops Q j (fun a' w' => S w' /\ wpAnyH P .any ops Q S fuel (listed.setIfInBounds j true) a' w') a w) : wpAnyH P .any ops Q S (fuel + 1) listed a w := by
 refine wpAnyH_all hr ag fun k hk => ?_
 simp only [List.mem_cons, List.not_mem_nil, or_false] at hk;rcases hk with rfl | rfl
 ·exact h1
 ·exact h2
theorem oe (i : Nat) (d : Option Tmp) (hi : ops[i]? = some o) (hd : o.dst = d) (hw : Region.wanted o (yielded ops a.tmps) = true) {v : Value} {w' : World} (he : (execOp a.eval o).run P w = .ok (.value v) w') (h : K (a.put d v) w') : wpOp P ops Q i K a w := by
 exact mE
theorem On (i : Nat) (d : Option Tmp) (hi : ops[i]? = some o) (hd : o.dst = d) (hw : Region.wanted o (yielded ops a.tmps) = true) {w' : World} (he : (execOp a.eval o).run P w = .ok .skip w') (h : K (a.put d undef) w') : wpOp P ops Q i K a w := by
 exact mE
theorem ot (i : Nat) (d : Option Tmp) (f : FuncId) (vs : Array Value) (hi : ops[i]? = some o) (hd : o.dst = d) (hw : Region.wanted o (yielded ops a.tmps) = true) (he : (execOp a.eval o).run P w = .ok (.enter f vs) w)
  {R : Ending -> World -> Prop} (hc : Calls P f vs w R) (h : ∀ e w', R e w' -> ∃ v, e = .returned v /\ K (a.put d v) w') : wpOp P ops Q i K a w := by
 subst hd;unfold wpOp;simp only [hi, hw, if_true];left;unfold Oper.wp;rw [he];simp only [Oper.upon];refine hc.mono fun e w' hR => ?_
 obtain ⟨v, rfl, h'⟩ := h e w' hR;exact h'
theorem rm (i : Nat) (d : Option Tmp) {v : Value} (ty : TypeId) (x : Operand) (p : Addr) (hi : ops[i]? = some o) (hd : o.dst = d) (ho : o.op = .load ty x) (hx : a.eval x = .pointer (some p)) (hw : Region.wanted o (yielded ops a.tmps) = true)
  (hv : (Instr.loadAt ty (.pointer (some p))).run P w = .ok v w) (h : K (a.put d v) w) : wpOp P ops Q i K a w := by
 refine oe i d hi hd hw ?_ h;exact mv
theorem ri (i : Nat) (ty : TypeId) (x y : Operand) (hi : ops[i]? = some o) (hd : o.dst = none) (ho : o.op = .store ty x y) (hw : Region.wanted o (yielded ops a.tmps) = true)
  (g off : Nat) (hx : a.eval x = .pointer (some ⟨g, off, none⟩)) (v : Value) (hy : a.eval y = v) {t : TypeId} {L : List Value} (hb : nj w g t L) (hn : off < L.length)
  (hinf : (P.info? ty).map (·.size) = some 1) (h1 : v.oneCell' = true) (hv : v.cells = #[v])
  (h : ∀ w', nj w' g t (L.set off v) -> w.grownBy w' (some g) -> w'.heap.size = w.heap.size -> K (a.put none undef) w') : wpOp P ops Q i K a w := by
 have hst := Kt (P := P) hb hn hinf h1 hv;refine On i none hi hd hw (w' := w.setCell ⟨g, off, none⟩ v) ?_ (h _ (hb.set off v) (nT (World.grownBy.refl _ _) off v) ay);exact mh
end
def Up (n : Nat) (fz : Nat × Nat) : Prop := fz.2 = 0 \/ n <= fz.1
def sU (w : World) (B : Nat) (v : Value) (s : List UInt8) : Prop :=
 (v = .slice none 0 0 /\ s = []) \/ ∃ (g cap : Nat) (cur : Array Value) (fz : Nat × Nat), v = .slice (some ⟨g, 0, none⟩) s.length cap /\ B <= g /\ w.heap[g]? = some (.cells cur 5 fz) /\ Up cur.size fz /\ s.length <= cap /\ cap <= maxLen /\ cur.size = cap /\ cur.toList.take s.length = oM s
theorem sU.form {w : World} {B : Nat} {v : Value} {s : List UInt8} (h : sU w B v s) : ∃ A c, v = .slice A s.length c := by
 rcases h with ⟨rfl, rfl⟩ | ⟨g, cap, cur, fz, rfl, _⟩
 ·exact ⟨none, 0, rfl⟩
 ·exact ⟨_, _, rfl⟩
theorem sU.base {w : World} {B : Nat} {v : Value} {s : List UInt8} (h : sU w B v s) : ∀ k, v.ownBlock = some k -> B <= k := by
 intro k hk;rcases h with ⟨rfl, rfl⟩ | ⟨g, cap, cur, fz, rfl, hB, _⟩
 ·simp [Value.ownBlock] at hk
 ·have : g = k := fP;omega
theorem sU.ne {w : World} {B g : Nat} {v : Value} {s : List UInt8} {cs : Array Value} {t : TypeId} {fz : Nat × Nat} (h : sU w B v s) (hb : w.heap[g]? = some (.cells cs t fz)) (ht : t ≠ 5) : some g ≠ v.ownBlock := by
 rcases h with ⟨rfl, rfl⟩ | ⟨g', cap, cur, fz', rfl, hB, hh, _⟩
 ·simp [Value.ownBlock]
 ·intro he;have : g = g' := gH;subst this;rw [hb] at hh;injection hh with hh;injection hh with _ h2;exact ht h2
theorem sU.kept {w w' : World} {B : Nat} {v : Value} {s : List UInt8} {row : Option Nat} (h : sU w B v s) (hg : w.grownBy w' row) (hne : v.ownBlock = none \/ v.ownBlock ≠ row) : sU w' B v s := by
 rcases h with hn | ⟨g, cap, cur, fz, rfl, hB, hh, rest⟩
 ·exact .inl hn
 ·refine .inr ⟨g, cap, cur, fz, rfl, hB, ?_, rest⟩;rw [hg.block g (Array.getElem?_eq_some_iff.1 hh).1 (by simpa [Value.ownBlock] using hne)];exact hh
theorem sU.below {w w' : World} {B : Nat} {v : Value} {s : List UInt8} (h : sU w B v s) (hb : Below w.heap.size w w') : sU w' B v s := by
 refine h.kept (nG hb none) ?_;cases hv : v.ownBlock with
 | none => exact .inl rfl
 | some g => exact .inr ag
theorem tC (P : Program) (g o : Nat) (t : TypeId) (fz : Nat × Nat) : ∀ (vs : List Value) (i : Nat) (cur : Array Value) (w : World), w.heap[g]? = some (.cells cur t fz) -> Up cur.size fz -> o + i + vs.length <= cur.size -> (∀ v ∈ vs, v.oneCell' = true) ->
  (storeCells ⟨g, o, none⟩ vs i).run P w = .ok () (w.setRow g (cur.toList.take (o + i) ++ vs ++ cur.toList.drop (o + i + vs.length)).toArray)
 | [], i, cur, w, hg, _, _, _ => by
  simp only [storeCells, List.append_nil, List.length_nil, Nat.add_zero, List.take_append_drop, Array.toArray_toList];rw [setRow_self w g cur t fz hg];rfl
 | v :: rest, i, cur, w, hg, hfz, hl, h1 => by
  have hi : o + i < cur.size := by simp at hl; omega
  have hadd : (⟨g, o, none⟩ : Addr).add i = ⟨g, o + i, none⟩ := eU;have hcell : w.cell? ⟨g, o + i, none⟩ = some cur[o + i] := by simp [World.cell?, hg, hi]
  have hfro : w.frozen? ⟨g, o + i, none⟩ = false := by obtain ⟨lo, hi'⟩ := fz;simp only [World.frozen?, hg, Bool.and_eq_false_iff, decide_eq_false_iff_not];simp only [Up] at hfz;omega
  have hst : (store ((⟨g, o, none⟩ : Addr).add i) v).run P w = .ok () (w.setRow g (cur.setIfInBounds (o + i) v)) := by rw [hadd, run_store P w _ v _ (h1 v ag), hcell];simp [hfro, setCell_eq_setRow w g (o + i) cur t fz v hg]
  have ih := tC P g o t fz rest (i + 1) (cur.setIfInBounds (o + i) v) (w.setRow g (cur.setIfInBounds (o + i) v)) (setRow_heap w g cur _ t _ hg) (by simpa using hfz) aq (fun x hx => h1 x (by simp [hx]));simp only [storeCells, Sem.run_bind, hst, Result.andThen_ok, ih, setRow_setRow];congr 3;have e := list_seg_step cur.toList (o + i) v rest aq;simpa [Array.toList_setIfInBounds, Nat.add_assoc] using e
theorem zJ (w : World) (ty : TypeId) (B : Nat) (v : Value) (s x : List UInt8) (hown : sU w B v s) (hB : B <= w.heap.size) (hl : s.length + x.length <= 140737488355328) :
  ∃ v' w', (Builtin.append_ #[145, 9] ty #[v, .string (bs x)]).run prog w = .ok v' w' /\ sU w' B v' (s ++ x) /\ w.grownBy w' v.ownBlock := by
 obtain ⟨i, hi, hz, hsize, hby⟩ := info_parts xH;rcases hown with ⟨rfl, rfl⟩ | ⟨g, cap, cur, fz, rfl, hbg, hg, hfz, hnc, hcm, hcs, htake⟩
 ·
  obtain ⟨v', w', h1, h2, h3, h4⟩ := Lib.run_append_own_string (P := prog) w B 145 9 ty 5 i underlying145 underlying9 hi hz hsize hby (.slice none 0 0) 0 [] (World.ownsRow_nil _ _ _ _) (bs x) (by rw [qo]; simp only [maxLen]; simp at hl; omega) (by rw [qo]; simpa using hl) hB;refine ⟨v', w', h1, ?_, h3⟩;rw [qo, ue, Nat.zero_add, List.nil_append] at h2;rcases h2.2 with ⟨rfl, h0⟩ | ⟨g, cap, cur, hv, hb, hh, hc, hm, hs, ht⟩
  ·have : x = [] := List.length_eq_zero_iff.1 h0;subst this;exact .inl ⟨rfl, rfl⟩
  ·exact .inr ⟨g, cap, cur, (0, 0), by simpa using hv, hb, hh, .inl rfl, by simpa using hc, hm, by simpa using hs, by simpa using ht⟩
 ·
  have hxl : (oM s).length = s.length := oK s;have hlen : (oM s ++ oM x).length = s.length + x.length := by rw [List.length_append, oK, oK]
  by_cases hroom : s.length + x.length <= cap
  ·
   have hf := Lib.run_firstCells_string (P := prog) w 1 (bs x);have hst := tC prog g s.length 5 fz (oM x) 0 cur w hg hfz az (fun v hv => by obtain ⟨b, _, rfl⟩ := List.mem_map.1 hv; rfl);rw [ue, qo] at hf;simp only [Nat.add_zero, oK] at hst;have hr : (Builtin.append_ #[145, 9] ty #[.slice (some ⟨g, 0, none⟩) s.length cap, .string (bs x)]).run prog w =
     .ok (.slice (some ⟨g, 0, none⟩) (s.length + x.length) cap) (w.setRow g (cur.toList.take s.length ++ oM x ++ cur.toList.drop (s.length + x.length)).toArray) := by
    simp [Builtin.append_, run_underlying underlying145, run_underlying underlying9, sizeOf, typeInfo, hi, hsize, Builtin.lenOf, hroom, hf, Addr.add_lit, hst, qo]
   refine ⟨_, _, hr, .inr ⟨g, cap, _, fz, by rw [List.length_append], hbg, setRow_heap w g cur _ _ _ hg, ?_, by rw [List.length_append]; exact hroom, hcm, ?_, ?_⟩, ⟨rfl, rfl, rfl, ag, fun k _ hk => setRow_other w g k _ (fun e => hk (by simp [Value.ownBlock, e]))⟩⟩
   ·
    have : (cur.toList.take s.length ++ oM x ++ cur.toList.drop (s.length + x.length)).toArray.size = cur.size := by exact lI
    rw [this]; exact hfz
   ·exact lI
   ·rw [htake, uA, List.length_append, <- hlen];exact List.take_left
  ·
   have holds : ∀ j u, (oM s)[j]? = some u -> w.cell? ((⟨g, 0, none⟩ : Addr).add j) = some u := by
    intro j u hu;have hadd : (⟨g, 0, none⟩ : Addr).add j = ⟨g, j, none⟩ := eU;rw [hadd, cell_of_row w g j cur _ fz hg];rw [<- htake, List.getElem?_take] at hu;split at hu
    ·simpa using hu
    ·cases hu
   have hr := Lib.run_append_grow_string (P := prog) w 145 9 ty 5 i (.int .u8 0) underlying145 underlying9 hi hz ⟨g, 0, none⟩ s.length cap (oM s) (by rw [hsize, oK, Nat.mul_one]) holds (bs x) (by rw [qo]; omega) (by rw [qo]; omega) (by rw [hby, qo]; exact growslice_fits ak ak);rw [qo, ue] at hr;have hge := grownCap_ge w (s.length + x.length) cap 5;have hcm2 : grownCap w (s.length + x.length) cap 5 <= maxLen := grownCap_le_maxLen w (s.length + x.length) cap _ aA;refine ⟨_, _, hr, .inr ⟨w.heap.size, _, _, (0, 0), by rw [List.length_append], hB, heap_alloc_new w.drew _, .inl rfl, by rw [List.length_append]; exact hge, hcm2, ?_, ?_⟩, ⟨rfl, rfl, rfl, ag, fun k hk _ => Below.heap_alloc w.drew _ k hk⟩⟩
   ·have hz1 : (Value.int IntKind.u8 0).cells.size = 1 := rfl;simp only [Array.size_append, List.size_toArray, size_zeroCells, hz1, oK];omega
   ·simp only [Array.toList_append, List.append_assoc];rw [<- List.append_assoc, uA, List.length_append, <- hlen];exact List.take_left
theorem RN (w : World) (s : List UInt8) (hl : s.length <= maxLen) :
  ∃ A c w', (convert 9 145 (.string (bs s))).run prog w = .ok (.slice A s.length c) w' /\ sU w' w.heap.size (.slice A s.length c) s /\ Below w.heap.size w w' := by
 have hr := run_bytes_of_string (P := prog) w 9 145 5 (bs s) underlying9 underlying145 underlying5;rw [qo] at hr;have hge := grownCap_ge w s.length 0 5;have hcm := grownCap_le_maxLen w s.length 0 5 hl;generalize grownCap w s.length 0 5 = cap at *;have hbr : (bytesRow (bs s) cap).size = cap := by simp [bytesRow, bs, ByteArray.size]; omega
 refine ⟨_, _, _, hr, .inr ⟨w.heap.size, cap, _, _, rfl, Nat.le_refl _, heap_alloc_new w.drew _, .inr ag, hge, hcm, hbr, ?_⟩, ((Below.refl _ _).drew).alloc (Nat.le_refl _) _⟩;have e1 : (bytesRow (bs s) cap).toList = oM s ++ List.replicate (cap - s.length) (.int .u8 0) := by simp [bytesRow, bs, oM, ByteArray.size]
 rw [e1];exact List.take_left' (oK s)
theorem sU.str {w : World} {B : Nat} {v : Value} {s : List UInt8} (h : sU w B v s) : (convert 145 9 v).run prog w = .ok (.string (bs s)) w := by
 rcases h with ⟨rfl, rfl⟩ | ⟨g, cap, cur, fz, rfl, hB, hh, _, _, _, _, ht⟩
 ·kernel_rfl
 ·
  refine run_convert_bytes_back w 145 9 5 ⟨g, 0, none⟩ cap s underlying145 underlying5 underlying9 ?_;intro j hj;have hadd : (⟨g, 0, none⟩ : Addr).add j = ⟨g, j, none⟩ := eU;rw [hadd, cell_of_row w g j cur _ fz hh];have e : cur.toList[j]? = (cur.toList.take s.length)[j]? := by rw [List.getElem?_take_of_lt hj]
  rw [show cur[j]? = cur.toList[j]? by simp, e, ht, uB s j hj]
theorem xL (w : World) {ops : Array Oper} {rest : List Oper} {o : Oper} {a : Act} {Q : Exit -> Act -> World -> Prop} (hgd : o.guard = none) (sl x : Operand)
  (ho : o.op = .call { callee := .builtin .append, args := #[sl, x], argTypes := #[145, 9] })
  (B : Nat) (v : Value) (q s : List UInt8) (hs : a.eval sl = v) (hown : sU w B v q) (hB : B <= w.heap.size) (hx : a.eval x = .string (bs s)) (hl : q.length + s.length <= 140737488355328)
  (h : ∀ A c w', sU w' B (.slice A (q ++ s).length c) (q ++ s) -> w.grownBy w' v.ownBlock -> wpList prog ops Q rest (a.put o.dst (.slice A (q ++ s).length c)) w') :
  wpList prog ops Q (o :: rest) a w := by
 refine wpList_plain hgd fun K hK => ?_
 obtain ⟨v', w', hr, h2, h3⟩ := zJ w o.type B v q s hown hB hl;obtain ⟨A, c, rfl⟩ := h2.form;unfold Oper.wp execOp;simp only [ho, resolve, invoke, builtin, Sem.run_bind, Sem.run_pure, Result.andThen_ok, List.map_toArray, List.map_cons, List.map_nil, hs, hx, hr];exact hK _ _ (h A c w' h2 h3)
end Go.Proofs.YthnbcmlnpdabhaaGreat
