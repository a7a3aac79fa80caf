/-
  Drawn regions: a row of operations that reckon, or read what stays, taken in one step.
-/
import Derived.Test.YteimenplbanooaaGreatDoorRAOq
namespace Go.Proofs.YteimenplbanooaaGreatDoor
open _root_.Go.Proofs.Tryz
open Go.RowKit
set_option linter.unusedVariables false
set_option linter.unusedSimpArgs false
section
variable {P : Program} {ops : Array Oper} {S : World → Prop} {Q : Exit → Act → World → Prop}
def seqB (ops : Array Oper) : List Nat → Array Bool → Bool
 | [], _ => true
 | i :: is, li => (Region.free .any ops li i && (Region.ready .any ops li).contains i) && seqB ops is (li.setIfInBounds i true)
def seqL : List Nat → Array Bool → Array Bool
 | [], li => li
 | i :: is, li => seqL is (li.setIfInBounds i true)
def getO : List Oper → Nat → Option Oper
 | [], _ => none
 | o :: _, 0 => some o
 | _ :: l, i + 1 => getO l i
theorem getO_eq : ∀ (l : List Oper) (i : Nat), getO l i = l[i]?
 | [], _ => rfl
 | _ :: _, 0 => rfl
 | _ :: l, i + 1 => by rw [List.getElem?_cons_succ]; exact getO_eq l i
def SeqC (P : Program) (ops : Array Oper) (S : World → Prop) (K : Act → Prop) : List Nat → Act → Prop
 | [], a => K a
 | i :: is, a => ∃ o v, getO ops.toList i = some o ∧ (Region.wanted o (yielded ops a.tmps) = true ∧ (∀ w, S w → (execOp a.eval o).run P w = .ok (.value v) w) ∨ Region.wanted o (yielded ops a.tmps) = false ∧ v = undef) ∧ SeqC P ops S K is (a.put o.dst v)
theorem held_seq0 (hs : Region.noSelect ops = true) (hQ : ∀ c a d v w, Q (.panic c) (Act.put a (some d) v) w → Q (.panic c) a w) {w : World} (hS : S w) : ∀ (is : List Nat) (li : Array Bool) (a : Act) (fuel : Nat), seqB ops is li = true → SeqC P ops S (fun a' => wpAnyH P .any ops Q S fuel (seqL is li) a' w) is a → wpAnyH P .any ops Q S (fuel + is.length) li a w
 | [], li, a, fuel, _, h => h
 | i :: is, li, a, fuel, hb, hr => by
  obtain ⟨o, v, ho, hv, hr⟩ := hr
  rw [getO_eq, Array.getElem?_toList] at ho
  unfold seqB at hb
  simp only [Bool.and_eq_true] at hb
  have k := held_seq0 hs hQ hS is (li.setIfInBounds i true) (a.put o.dst v) fuel hb.2 hr
  exact wpAnyH_take ho hs hb.1.1 hb.1.2 (fun c a w hq => by
   cases hd : o.dst with
   | none => rw [hd] at hq; exact hq
   | some d => rw [hd] at hq; exact hQ c a _ _ w hq) hv hS k
theorem held_seq {w : World} (hS : S w) (n : Nat) (is : List Nat) {li li' : Array Bool} {a : Act} {fuel fuel' : Nat} (hn : is.length = n) (hb : (Region.noSelect ops && seqB ops is li) = true) (hQ : ∀ c a d v w, Q (.panic c) (Act.put a (some d) v) w → Q (.panic c) a w) (hf : fuel = fuel' + n) (hl : seqL is li = li')
  (hr : SeqC P ops S (fun a' => wpAnyH P .any ops Q S fuel' li' a' w) is a) : wpAnyH P .any ops Q S fuel li a w := by
 subst hn hf hl
 rw [Bool.and_eq_true] at hb
 exact held_seq0 hb.1 hQ hS is li a fuel' hb.2 hr
theorem exec_ld {a : Act} {o : Oper} (ty : TypeId) (x : Operand) (p : Addr) {v : Value} {w : World} (ho : o.op = .load ty x) (hx : a.eval x = .pointer (some p)) (hv : (Instr.loadAt ty (.pointer (some p))).run P w = .ok v w) : (execOp a.eval o).run P w = .ok (.value v) w := by
 unfold execOp
 simp only [ho, hx, Sem.run_bind, hv, Result.andThen_ok, Sem.run_pure]
theorem exec_bldH {w : World} {o : Oper} {a : Act} (t : TypeId) (parts : Array (Nat × Operand)) (ho : o.op = .build t parts) (vals : Array (Nat × Value)) (hv : parts.map (fun (i, x) => (i, a.eval x)) = vals) {v : Value} (hr : (Instr.build t vals).run P w = .ok v w) : (execOp a.eval o).run P w = .ok (.value v) w := by
 unfold execOp
 simp only [ho, hv, Sem.run_bind, hr, Result.andThen_ok, Sem.run_pure]
end
theorem run_ixK {t e : TypeId} {sz ba oa k n c : Nat} (ht : prog.underlying t = some (.slice e)) (hs : (prog.info? e).map (·.size) = some sz) (hz : 0 < sz) (hk : k < n) (w : World) : (Instr.indexAt t (.slice (some ⟨ba, oa, none⟩) n c) (.int .i64 k)).run prog w = .ok (.pointer (some ⟨ba, oa + k * sz, none⟩)) w := by
 have h1 : (k : Int) < n := by omega
 obtain ⟨i, hi, hsize⟩ := Option.map_eq_some_iff.1 hs
 simp [Instr.indexAt, run_underlying ht, asIntOf, sizeOf, typeInfo, hi, hsize, h1, Addr.add]
 rw [if_pos hk]
 by_cases h0 : k * sz = 0
 ·
  rw [if_pos h0, h0]; rfl
 ·
  rw [if_neg h0]
theorem exec_ixK {t e : TypeId} {sz ba oa k n c : Nat} {o : Oper} {a : Act} (ht : prog.underlying t = some (.slice e)) (hs : (prog.info? e).map (·.size) = some sz) (hz : 0 < sz) (x y : Operand) (ho : o.op = .indexAddr t x y) (hx : a.eval x = .slice (some ⟨ba, oa, none⟩) n c) (hy : a.eval y = .int .i64 k) (hk : k < n) (w : World) : (execOp a.eval o).run prog w = .ok (.value (.pointer (some ⟨ba, oa + k * sz, none⟩))) w := by
 have hr := run_ixK (ba := ba) (oa := oa) (c := c) ht hs hz hk w
 unfold execOp
 simp only [ho, hx, hy, Sem.run_bind, hr, Result.andThen_ok, Sem.run_pure]
theorem rangeK_loads {w : World} {b o : Nat} {sub : List Value} {ty : TypeId} {d : TypeDesc} (h : w.rangeAt b o sub) (hu : prog.underlying ty = some d) (hd : d.isRow = true) (hi : (prog.info? ty).map (·.size) = some sub.length) : (Instr.loadAt ty (.pointer (some ⟨b, o, none⟩))).run prog w = .ok (.agg sub.toArray) w := run_loadAt_mid w b o ty sub d h hu hd hi
set_option maxRecDepth 100000
def pfC (p : Adr × Int) : List Value := p.1.cells ++ [.int .i64 p.2]
def pfZ : List Value := pfC (Adr.zero, 0)
theorem pfC_len {p : Adr × Int} (h : p.1.ip.length = 16) : (pfC p).length = 19 := by simp [pfC, p.1.cells_len h]
theorem pfC_one (p : Adr × Int) : ∀ v ∈ pfC p, v.oneCell' = true := by
 intro v hv
 rcases List.mem_append.1 hv with h | h
 ·
  exact p.1.cells_one v h
 ·
  simp at h; subst h; rfl
theorem pfC_ad {p : Adr × Int} (h : p.1.ip.length = 16) : ((pfC p).drop 0).take 18 = p.1.cells := by rw [List.drop_zero]; exact List.take_left' (p.1.cells_len h)
theorem pfC_18 {p : Adr × Int} (h : p.1.ip.length = 16) : (pfC p)[18]? = some (.int .i64 p.2) := by
 unfold pfC; rw [List.getElem?_append_right (by rw [p.1.cells_len h]; omega), p.1.cells_len h]; rfl
theorem pfI19 : (prog.info? 113).map (·.size) = some 19 := by kernel_rfl
theorem pfInfo3 : (prog.info? 113).map (fun i => (i.zero, i.size, i.bytes)) = some (some (.agg pfZ.toArray), 19, 40) := by kernel_rfl
def PfI (cs : List Value) (p : Adr × Int) : Prop := cs = pfC p ∧ p.1.ip.length = 16
abbrev PfsO (w : World) (B : Nat) (v : Value) (l : List (Adr × Int)) : Prop := LOwn w B 113 19 PfI v l
abbrev PfsR (w : World) (A : Option Addr) (l : List (Adr × Int)) : Prop := LIn w 19 PfI A l
def bitsA (a : Adr) : Int := if a.fam = 4 then 32 else if a.fam = 6 then 128 else 0
def holdsP (p : Adr × Int) : Int := if p.1.check ≠ 0 then p.1.check else if p.2 < 0 ∨ bitsA p.1 < p.2 then 4 else 0
def pfOk (p : Adr × Int) : Bool := holdsP p == 0
theorem bits_any (a : Adr) (h : a.ip.length = 16) (w : World) : Calls prog 172 #[.agg a.cells.toArray] w (RetB (.int .i64 (bitsA a)) w) := by
 have c0 := (Blk.new w 24 a.cells).cell_ 0 (u := .int .i64 a.fam) rfl
 have HB : Below w.heap.size w (w.alloc (.cells a.cells.toArray 24)) := (Below.refl _ _).alloc (Nat.le_refl _) _
 have K : bitsA a = if a.fam = 4 then 32 else if a.fam = 6 then 128 else 0 := rfl
 have HK := Hh K
 clear K h
 generalize a.cells = L at *
 generalize a.fam = f at *
 go_enter func172, ntmps172
 by_cases h4 : f = 4
 ·
  subst h4
  go_wp2_with fail
  go_ret
  exact RetB.mk (by rw [HK.out]; rfl) HB
 ·
  have h4' : (f == 4) = false := by simpa using h4
  by_cases h6 : f = 6
  ·
   subst h6
   go_wp2_with fail
   go_ret
   exact RetB.mk (by rw [HK.out]; rfl) HB
  ·
   have h6' : (f == 6) = false := by simpa using h6
   rw [if_neg h4, if_neg h6] at HK
   clear h4 h6
   go_wp2_with fail
   go_ret
   exact RetB.mk (by rw [HK.out]; rfl) HB
theorem holds_any (p : Adr × Int) (h : p.1.ip.length = 16) (w : World) : Calls prog 118 #[.agg (pfC p).toArray] w (RetB (.int .i64 (holdsP p)) w) := by
 have hcl := pfC_len h
 have hca := pfC_ad h
 have B := Blk.new w 113 (pfC p)
 have c18 := B.cell_ 18 (pfC_18 h)
 have AC := Hh (fun W => addrCheck_any p.1 h W)
 have BA := Hh (fun W => bits_any p.1 h W)
 have HB : Below w.heap.size w (w.alloc (.cells (pfC p).toArray 113)) := (Below.refl _ _).alloc (Nat.le_refl _) _
 have K : holdsP p = if p.1.check ≠ 0 then p.1.check else if p.2 < 0 ∨ bitsA p.1 < p.2 then 4 else 0 := rfl
 have HK := Hh K
 have HCA := Hh hca
 clear K h hca
 generalize pfC p = L at *
 generalize p.1.cells = M at *
 generalize p.1.check = ck at *
 generalize bitsA p.1 = bt at *
 generalize p.2 = n at *
 go_enter func118, ntmps118
 go_wp2_with (refine at_op (.load 24 (.tmp 4)) rfl ?_; go_must (refine wpList_ldB rfl _ _ rfl w.heap.size 0 rfl B 18 (by omega) _ underlying24 rfl adI18 M HCA.out ?_))
 refine (AC.out _).mono ?_
 rintro _ w1 ⟨rfl, b1⟩
 have B1 := B.below b1 B.lt
 have H1 := below_then HB HB.size b1
 have p18 : L[18]? = some (.int .i64 n) := by rw [← B.cell 18]; exact c18
 clear b1 c18 HB AC
 by_cases hck : ck = 0
 case neg =>
  have hck' : (ck != 0) = true := by simpa using hck
  rw [if_pos hck] at HK
  clear hck B
  go_wp2_with fail
  go_ret
  exact RetB.mk (by rw [HK.out]; rfl) H1
 have hck' : (ck != 0) = false := by simpa using hck
 rw [if_neg (by simpa using hck)] at HK
 have LD : Hid (∀ V, Below w1.heap.size w1 V → (Instr.loadAt 3 (.pointer (some ⟨w.heap.size, 18, none⟩))).run prog V = .ok (.int .i64 n) V) := Hh (fun V hV => run_load1 underlying3 rfl ((B1.below hV B1.lt).cell_ 18 p18))
 have LA : Hid (∀ V, Below w1.heap.size w1 V → (Instr.loadAt 24 (.pointer (some ⟨w.heap.size, 0, none⟩))).run prog V = .ok (.agg M.toArray) V) := Hh (fun V hV => (B1.below hV B1.lt).loads 24 0 18 (by omega) _ underlying24 rfl adI18 _ HCA.out)
 clear hck B
 go_wp2_with fail
 by_cases hn : n < 0
 case pos =>
  have hn' : decide (n < 0) = true := by simpa using hn
  rw [if_pos (.inl hn)] at HK
  refine wp_region_held_drew (S := fun V => Below w1.heap.size w1 V) (by kernel_rfl) (Below.refl _ _).drew (fun hS => ?_)
  refine held_seq hS 11 [0,1,2,3,4,5,6,7,8,9,10] rfl (by kernel_rfl) (fun _ _ _ _ _ h => h) rfl rfl ?_
  repeat (refine ⟨_, _, rfl, .inl ⟨rfl, fun W hW => rfl⟩, ?_⟩; simp only [Act.put, lsA, lsB, lsC])
  (refine ⟨_, _, rfl, .inl ⟨rfl, fun V hV => (exec_ld 3 (.tmp 10) ⟨w.heap.size, 18, none⟩ rfl rfl (LD.out V hV))⟩, ?_⟩; simp only [Act.put, lsA, lsB, lsC])
  repeat (refine ⟨_, _, rfl, .inl ⟨rfl, fun W hW => rfl⟩, ?_⟩; simp only [Act.put, lsA, lsB, lsC])
  simp only [hn']
  repeat (refine ⟨_, undef, rfl, .inr ⟨rfl, rfl⟩, ?_⟩; simp only [Act.put, lsA, lsB, lsC])
  repeat (refine ⟨_, _, rfl, .inl ⟨rfl, fun W hW => rfl⟩, ?_⟩; simp only [Act.put, lsA, lsB, lsC])
  simp only [SeqC]
  refine wpAnyH_done (by kernel_rfl) ?_ _
  go_wp2_with fail
  go_ret
  exact RetB.mk (by rw [HK.out]; rfl) (below_then H1 H1.size hS)
 have hn' : decide (n < 0) = false := by simpa using hn
 refine wp_region_held_drew (S := fun V => Below w1.heap.size w1 V) (by kernel_rfl) (Below.refl _ _).drew (fun hS => ?_)
 refine held_seq hS 8 [0,1,2,3,4,5,6,7] rfl (by kernel_rfl) (fun _ _ _ _ _ h => h) rfl rfl ?_
 repeat (refine ⟨_, _, rfl, .inl ⟨rfl, fun W hW => rfl⟩, ?_⟩; simp only [Act.put, lsA, lsB, lsC])
 (refine ⟨_, _, rfl, .inl ⟨rfl, fun V hV => (exec_ld 3 (.tmp 10) ⟨w.heap.size, 18, none⟩ rfl rfl (LD.out V hV))⟩, ?_⟩; simp only [Act.put, lsA, lsB, lsC])
 repeat (refine ⟨_, _, rfl, .inl ⟨rfl, fun W hW => rfl⟩, ?_⟩; simp only [Act.put, lsA, lsB, lsC])
 simp only [hn']
 repeat (refine ⟨_, _, rfl, .inl ⟨rfl, fun W hW => rfl⟩, ?_⟩; simp only [Act.put, lsA, lsB, lsC])
 (refine ⟨_, _, rfl, .inl ⟨rfl, fun V hV => (exec_ld 3 (.tmp 14) ⟨w.heap.size, 18, none⟩ rfl rfl (LD.out V hV))⟩, ?_⟩; simp only [Act.put, lsA, lsB, lsC])
 repeat (refine ⟨_, _, rfl, .inl ⟨rfl, fun W hW => rfl⟩, ?_⟩; simp only [Act.put, lsA, lsB, lsC])
 (refine ⟨_, _, rfl, .inl ⟨rfl, fun V hV => (exec_ld 24 (.tmp 16) ⟨w.heap.size, 0, none⟩ rfl rfl (LA.out V hV))⟩, ?_⟩; simp only [Act.put, lsA, lsB, lsC])
 simp only [SeqC]
 refine held_call 8 (some 18) 172 #[.agg M.toArray] (by kernel_rfl) rfl rfl (by kernel_rfl) (by go_simp) (BA.out _) ?_
 rintro _ w2 ⟨rfl, b2⟩
 refine ⟨_, rfl, below_then hS hS.size b2, ?_⟩
 have hS := below_then hS hS.size b2
 simp only [Act.put, lsA, lsB, lsC]
 refine held_seq hS 2 [9,10] rfl (by kernel_rfl) (fun _ _ _ _ _ h => h) rfl rfl ?_
 repeat (refine ⟨_, _, rfl, .inl ⟨rfl, fun W hW => rfl⟩, ?_⟩; simp only [Act.put, lsA, lsB, lsC])
 simp only [SeqC]
 refine wpAnyH_done (by kernel_rfl) ?_ _
 have HE : Hid (holdsP p = if bt < n then 4 else 0) := Hh (by rw [HK.out]; by_cases h : bt < n <;> simp [h, hn])
 clear HK LD LA b2 B1
 by_cases hb : bt < n
 all_goals
  go_wp2_with fail
  go_ret
  exact RetB.mk (by rw [HE.out]; first | (rw [if_pos hb]; rfl) | (rw [if_neg (by omega)]; rfl)) (below_then H1 H1.size hS)
theorem mayPrefix_any (p : Adr × Int) (h : p.1.ip.length = 16) (w : World) : Calls prog 60 #[.agg (pfC p).toArray] w (RetB (.bool (pfOk p)) w) := by
 have hcl := pfC_len h
 have AC := Hh (fun W => holds_any p h W)
 have K : pfOk p = (holdsP p == 0) := rfl
 have HK := Hh K
 clear K
 generalize pfC p = L at *
 generalize holdsP p = ck at *
 have HB : Below w.heap.size w (w.alloc (.cells L.toArray 113)) := (Below.refl _ _).alloc (Nat.le_refl _) _
 go_enter func60, ntmps60
 go_wp2_with (refine at_op (.load 113 (.tmp 1)) rfl ?_; go_must (refine wpList_ldB rfl _ _ rfl w.heap.size 0 rfl (Blk.new w 113 L) 19 (by omega) _ underlying113 rfl pfI19 L (tk0 (by omega)) ?_))
 refine (AC.out _).mono ?_
 rintro _ w1 ⟨rfl, b1⟩
 go_wp2_with fail
 go_ret
 exact RetB.mk (by rw [HK.out]; rfl) (below_then HB HB.size b1)
set_option maxHeartbeats 1000000 in
theorem leftF_any (A : Option Addr) (c : Nat) (l : List (Adr × Int)) (m : Nat) (w : World) (hA : PfsR w A l) (hl : l.length ≤ 17592186044416) (hm : m ≤ 100) :
  Calls prog 59 #[.slice A l.length c, .int .i64 m, .func (.func 60) #[] #[]] w (LeftRet 113 19 (fun _ => PfI) (leftP pfOk l m) w) := by
 have hadz : pfZ.length = 19 := rfl
 obtain ⟨p, hp⟩ : ∃ p, p = pfOk := ⟨_, rfl⟩
 have MS := Hh (fun a h W => mayPrefix_any a h W)
 rw [← hp] at MS ⊢
 clear hp
 go_enter func59, ntmps59
 go_wp2_with fail
 go_loopw [7, 12] (fun kv iv wr => ∃ k : Nat, k ≤ l.length ∧ iv = .int .i64 k ∧ PfsO wr w.heap.size kv ((l.take k).filter p) ∧ ((l.take k).filter p).length ≤ m ∧ Below w.heap.size w wr) (fun _ iv _ => l.length - (intOf iv).toNat)
 case atStart => exact ⟨0, Nat.zero_le _, rfl, LOwn.nil _ _ _ _ _, by simp, Below.refl _ _⟩
 obtain ⟨k, hk, rfl, ho, hle, hB⟩ := hrel
 obtain ⟨Ak, ck, hv⟩ := ho.form
 subst hv
 by_cases hlt : k < l.length
 case neg =>
  have hlt' : ¬ (k : Int) < l.length := by omega
  go_wp2_with fail
  go_ret
  refine ⟨_, rfl, ?_, hB⟩
  rw [List.take_of_length_le (by omega)] at ho hle
  rw [List.take_of_length_le (by omega), left_all hle]
  exact ho
 have hlt' : (k : Int) < l.length := by omega
 obtain ⟨b, off, rfl, hb, hr⟩ := hA (by omega)
 obtain ⟨cs, hcs, hce, hip⟩ := hr k hlt
 have hcs := range_below hcs hB hb
 have hcl : cs.length = 19 := by rw [hce]; exact pfC_len hip
 have hone : ∀ v ∈ cs, v.oneCell' = true := by rw [hce]; exact pfC_one _
 have MK : Hid (∀ W, Calls prog 60 #[.agg cs.toArray] W (RetB (.bool (p l[k])) W)) := Hh (fun W => by rw [hce]; exact MS.out _ hip W)
 have HC := Hh hce
 have HO := Hh ho
 have HI := Hh hip
 clear hce hip hr ho hA
 have W1 : Below wr.heap.size wr (wr.alloc (.cells pfZ.toArray 113)) := (Below.refl _ _).alloc (Nat.le_refl _) _
 by_cases hful : ((l.take k).filter p).length < m
 case neg =>
  have hful' : ¬ (((l.take k).filter p).length : Int) < m := by omega
  go_wp2_with (first
   | (refine at_op (.load 113 (.tmp 14)) rfl ?_; go_must (refine wpList_ldR rfl 113 (.tmp 14) rfl b (off + k * 19) rfl cs hcs _ underlying113 rfl (by rw [hcl]; exact pfI19) ?_))
   | (refine at_op (.store 113 (.tmp 9) (.tmp 15)) rfl ?_; go_must (refine wpList_stB rfl _ _ _ rfl wr.heap.size 0 rfl cs rfl (Blk.new wr 113 pfZ) (by rw [hadz, hcl]; decide) (by rw [hcl]; exact pfI19) hone ?_)))
  intro w1 B1 g1 _
  have H1 := below_grown (below_then hB hB.size W1) g1 (by have := hB.size; simp; omega) hB.size
  have K1 := below_grown W1 g1 W1.size (Nat.le_refl _)
  clear g1 B1 W1
  go_wp2_with fail
  go_ret
  refine ⟨_, rfl, ?_, H1⟩
  have e : ((l.take k).filter p).length = m := by omega
  rw [left_full e]
  exact LOwn.below (R' := PfI) HO.out K1 (fun _ _ h => h)
 have hful' : (((l.take k).filter p).length : Int) < m := by omega
 go_wp2_with (first
  | (refine at_op (.load 113 (.tmp 14)) rfl ?_; go_must (refine wpList_ldR rfl 113 (.tmp 14) rfl b (off + k * 19) rfl cs hcs _ underlying113 rfl (by rw [hcl]; exact pfI19) ?_))
  | (refine at_op (.store 113 (.tmp 9) (.tmp 15)) rfl ?_; go_must (refine wpList_stB rfl _ _ _ rfl wr.heap.size 0 rfl cs rfl (Blk.new wr 113 pfZ) (by rw [hadz, hcl]; decide) (by rw [hcl]; exact pfI19) hone ?_)))
 intro w1 B1 g1 _
 have B1' := blkAll B1 (by omega)
 have H1 := below_grown (below_then hB hB.size W1) g1 (by have := hB.size; simp; omega) hB.size
 clear B1
 go_wp2_with (refine at_op (.load 113 (.tmp 9)) rfl ?_; go_must (refine wpList_ldB rfl _ _ rfl wr.heap.size 0 rfl B1' 19 (by omega) _ underlying113 rfl pfI19 cs (tk0 (by omega)) ?_))
 refine (MK.out _).mono ?_
 rintro _ w2 ⟨rfl, b2⟩
 have B2 := B1'.below b2 B1'.lt
 have H2 := below_then H1 H1.size b2
 have K2 := below_then (below_grown W1 g1 W1.size (Nat.le_refl _)) (by have := g1.size; simp at this; omega) b2
 have O2 := LOwn.below (R' := PfI) HO.out K2 (fun _ _ h => h)
 have FS := Hh (filter_succ (p := p) hlt)
 have hlen : ((l.take k).filter p).length + 1 ≤ 200 := by omega
 clear MS MK hcs W1 g1 b2 B1' HO H1
 cases hpk : p l[k] with
 | false =>
  rw [hpk] at FS
  have HP := Hh hpk
  clear hpk
  go_wp2_with fail
  go_roundw
  case rel => exact ⟨k + 1, by omega, by go_num, by rw [FS.out]; simpa using O2, by rw [FS.out]; simpa using hle, H2⟩
  case measure => simp [intOf]; omega
 | true =>
  rw [hpk] at FS
  have HP := Hh hpk
  have K3 : Below w2.heap.size w2 (w2.alloc (.cells cs.toArray 113)) := (Below.refl _ _).alloc (Nat.le_refl _) _
  have O3 := LOwn.below (R' := PfI) O2 K3 (fun _ _ h => h)
  have N3 := O2.ne (Nat.le_refl _)
  clear hpk
  go_wp2_with (first
   | (refine at_op (.load 113 (.tmp 9)) rfl ?_; go_must (refine wpList_ldB rfl _ _ rfl wr.heap.size 0 rfl B2 19 (by omega) _ underlying113 rfl pfI19 cs (tk0 (by omega)) ?_))
   | (refine at_op (.buildSlice 35 1 #[(0, .tmp 24)]) rfl ?_; go_must (refine wpList_bsG rfl 35 113 _ 19 40 underlying35 pfInfo3 (by decide) (by decide) (.tmp 24) rfl cs rfl hcl ?_))
   | (at_builtin; go_must (refine wpList_app1 _ rfl _ _ 35 rfl 113 _ 19 40 underlying35 pfInfo3 (by kernel_rfl) (by decide) w.heap.size _ _ rfl O3 (by have := H2.size; simp; omega) w2.heap.size cs l[k] rfl (Blk.new _ _ _) N3 hcl hone ⟨HC.out, HI.out⟩ (by simp only [maxLen]; omega) (by omega) ?_)))
  intro v' w4 O4 g4
  have H4 := (below_then H2 H2.size K3).grown g4 (by have := H2.size; simp; omega) O3.base
  clear g4 K3 O3 O2 N3 B2 H2
  go_wp2_with fail
  go_roundw
  case rel => exact ⟨k + 1, by omega, by go_num, by rw [FS.out]; exact O4, by rw [FS.out]; simp; omega, H4⟩
  case measure => simp [intOf]; omega
def NmI (w : World) (cs : List Value) (n : List (List UInt8)) : Prop := ∃ A c, cs = [.slice A n.length c] ∧ NmR w A c n
abbrev NmlO (w0 w : World) (B : Nat) (v : Value) (l : List (List (List UInt8))) : Prop := LOwn w B 81 1 (NmI w0) v l
theorem nms_below {w w' : World} {A : Option Addr} {l : List (List (List UInt8))} (h : NmsR w A l) (hb : Below w.heap.size w w') : NmsR w' A l := by
 intro hp
 obtain ⟨b, off, h1, h2, h3⟩ := h hp
 refine ⟨b, off, h1, Nat.lt_of_lt_of_le h2 hb.size, fun i hi => ?_⟩
 obtain ⟨Ai, ci, h4, h5⟩ := h3 i hi
 exact ⟨Ai, ci, (hb.cell (p := ⟨b, off + i, none⟩) h2).trans h4, h5.below hb⟩
def nmOk (n : List (List UInt8)) : Bool := decide (0 < n.length) && (checkN n == 0)
theorem nmInfo3 : (prog.info? 81).map (fun i => (i.zero, i.size, i.bytes)) = some (some nilS, 1, 24) := by kernel_rfl
theorem mayName_any (A : Option Addr) (c : Nat) (n : List (List UInt8)) (hm : n.length ≤ 281474976710656) (w : World) (h : TxtR w A n) : Calls prog 58 #[.slice A n.length c] w (Ret (.bool (nmOk n)) w) := by
 have DC := Hh (dcheck_any A c n w h hm)
 have K : nmOk n = (decide (0 < n.length) && (checkN n == 0)) := rfl
 have HK := Hh K
 clear K h
 generalize checkN n = ck at *
 go_enter func58, ntmps58
 by_cases h0 : 0 < n.length
 case neg =>
  have h0' : decide (0 < n.length) = false := by simpa using h0
  have e : n.length = 0 := by omega
  rw [e] at DC ⊢
  rw [h0'] at HK
  clear h0 h0' e
  go_wp2_with fail
  go_ret
  exact Ret.mk (by rw [HK.out]; rfl) rfl
 have h0' : (0 : Int) < n.length := by omega
 have h0'' : decide (0 < n.length) = true := by simpa using h0
 rw [h0''] at HK
 clear h0''
 go_wp2_with fail
 refine DC.out.mono ?_
 rintro _ w1 ⟨rfl, rfl⟩
 go_wp2_with fail
 go_ret
 exact Ret.mk (by rw [HK.out]; rfl) rfl
set_option maxHeartbeats 1000000 in
theorem leftN_in (w0 : World) (A : Option Addr) (c : Nat) (l : List (List (List UInt8))) (m : Nat) (w : World) (hA : LIn w 1 (NmI w0) A l) (hw : Below w0.heap.size w0 w) (hl : l.length ≤ 17592186044416) (hm : m ≤ 100) :
  Calls prog 57 #[.slice A l.length c, .int .i64 m, .func (.func 58) #[] #[]] w (LeftRet 81 1 (fun _ => NmI w0) (leftP nmOk l m) w) := by
 obtain ⟨p, hp⟩ : ∃ p, p = nmOk := ⟨_, rfl⟩
 have MS := Hh (fun A c n W h1 h2 => mayName_any A c n W h1 h2)
 rw [← hp] at MS ⊢
 clear hp
 go_enter func57, ntmps57
 go_wp2_with fail
 go_loopw [7, 12] (fun kv iv wr => ∃ k : Nat, k ≤ l.length ∧ iv = .int .i64 k ∧ NmlO w0 wr w.heap.size kv ((l.take k).filter p) ∧ ((l.take k).filter p).length ≤ m ∧ Below w.heap.size w wr) (fun _ iv _ => l.length - (intOf iv).toNat)
 case atStart => exact ⟨0, Nat.zero_le _, rfl, LOwn.nil _ _ _ _ _, by simp, Below.refl _ _⟩
 obtain ⟨k, hk, rfl, ho, hle, hB⟩ := hrel
 obtain ⟨Ak, ck, hv⟩ := ho.form
 subst hv
 by_cases hlt : k < l.length
 case neg =>
  have hlt' : ¬ (k : Int) < l.length := by omega
  go_wp2_with fail
  go_ret
  refine ⟨_, rfl, ?_, hB⟩
  rw [List.take_of_length_le (by omega)] at ho hle
  rw [List.take_of_length_le (by omega), left_all hle]
  exact ho
 have hlt' : (k : Int) < l.length := by omega
 obtain ⟨b, off, rfl, hb, hr⟩ := hA (by omega)
 obtain ⟨cs0, hcs0, An, cn, rfl, hnm⟩ := hr k hlt
 have hBW := below_then hw hw.size hB
 have ce := (hB.cell (p := ⟨b, off + k, none⟩) hb).trans (by simpa using hcs0 0 _ rfl)
 clear hcs0
 have hln := hnm.2.2.1
 have MK := Hh (MS.out An cn l[k] (by omega) wr (hnm.below hBW).1)
 have HO := Hh ho
 have HI := Hh hnm
 clear hr ho hA MS hnm hBW hw
 by_cases hful : ((l.take k).filter p).length < m
 case neg =>
  have hful' : ¬ (((l.take k).filter p).length : Int) < m := by omega
  go_wp2_with fail
  go_ret
  refine ⟨_, rfl, ?_, hB⟩
  have e : ((l.take k).filter p).length = m := by omega
  rw [left_full e]
  exact HO.out
 have hful' : (((l.take k).filter p).length : Int) < m := by omega
 have FS := Hh (filter_succ (p := p) hlt)
 have hlen : ((l.take k).filter p).length + 1 ≤ 200 := by omega
 have NI : Hid (NmI w0 [.slice An l[k].length cn] l[k]) := Hh ⟨An, cn, rfl, HI.out⟩
 generalize l[k].length = nl at *
 go_wp2_with fail
 refine MK.out.mono ?_
 rintro _ w2 ⟨rfl, rfl⟩
 clear MK
 cases hpk : p l[k] with
 | false =>
  rw [hpk] at FS
  have HP := Hh hpk
  clear hpk
  go_wp2_with fail
  go_roundw
  case rel => exact ⟨k + 1, by omega, by go_num, by rw [FS.out]; simpa using HO.out, by rw [FS.out]; simpa using hle, hB⟩
  case measure => simp [intOf]; omega
 | true =>
  rw [hpk] at FS
  have HP := Hh hpk
  have K3 : Below wr.heap.size wr (wr.alloc (.cells #[.slice An nl cn] 81)) := (Below.refl _ _).alloc (Nat.le_refl _) _
  have N3 := HO.out.ne (Nat.le_refl _)
  clear hpk
  go_wp2_with (at_builtin; go_must (refine wpList_app1 _ rfl _ _ 34 rfl 81 _ 1 24 underlying34 nmInfo3 (by kernel_rfl) (by decide) w.heap.size _ _ rfl (LOwn.below (R' := NmI w0) HO.out K3 (fun _ _ h => h)) (by have := hB.size; simp; omega) wr.heap.size [.slice An nl cn] l[k] rfl (Blk.new _ _ _) N3 rfl (by simp [Value.oneCell']) NI.out (by simp only [maxLen]; omega) (by omega) ?_))
  intro v' w4 O4 g4
  have H4 := (below_then hB hB.size K3).grown g4 (by have := hB.size; simp; omega) HO.out.base
  clear g4 K3 N3
  go_wp2_with fail
  go_roundw
  case rel => exact ⟨k + 1, by omega, by go_num, by rw [FS.out]; exact O4, by rw [FS.out]; simp; omega, H4⟩
  case measure => simp [intOf]; omega
theorem NmsR.lin {w0 w : World} {A : Option Addr} {l : List (List (List UInt8))} (h : NmsR w0 A l) (hw : Below w0.heap.size w0 w) : LIn w 1 (NmI w0) A l := by
 intro hp
 obtain ⟨b, off, h1, h2, h3⟩ := h hp
 refine ⟨b, off, h1, Nat.lt_of_lt_of_le h2 hw.size, fun i hi => ?_⟩
 obtain ⟨Ai, ci, h4, h5⟩ := h3 i hi
 refine ⟨[.slice Ai l[i].length ci], fun j v hv => ?_, Ai, ci, rfl, h5⟩
 match j, hv with
 | 0, hv =>
  injection hv with hv
  subst hv
  simpa using (hw.cell (p := ⟨b, off + i, none⟩) h2).trans h4
theorem leftN_any (w0 : World) (A : Option Addr) (c : Nat) (l : List (List (List UInt8))) (m : Nat) (w : World) (hA : NmsR w0 A l) (hw : Below w0.heap.size w0 w) (hl : l.length ≤ 17592186044416) (hm : m ≤ 100) :
  Calls prog 57 #[.slice A l.length c, .int .i64 m, .func (.func 58) #[] #[]] w (LeftRet 81 1 (fun _ => NmI w0) (leftP nmOk l m) w) := leftN_in w0 A c l m w (hA.lin hw) hw hl hm
end Go.Proofs.YteimenplbanooaaGreatDoor
