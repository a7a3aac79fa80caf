/-
  Drawn regions: a row of operations that reckon, or read what stays, taken in one step.
-/
import Derived.Test.YthnbcmlnpdabhaaGreatIAq
namespace Go.Proofs.YthnbcmlnpdabhaaGreat
open _root_.Go.Proofs.Tryz
open Go.RowKit
set_option linter.unusedVariables false
set_option linter.unusedSimpArgs false
section
variable {P : Program} {ops : Array Oper} {S : World -> Prop} {Q : Exit -> Act -> World -> Prop}
def seqB (ops : Array Oper) : List Nat -> Array Bool -> Bool
 | [], _ => true
 | i :: is, li => (Region.free .any ops li i && (Region.ready .any ops li).contains i) && seqB ops is (li.setIfInBounds i true)
def UI : List Nat -> Array Bool -> Array Bool
 | [], li => li
 | i :: is, li => UI is (li.setIfInBounds i true)
def UJ : List Oper -> Nat -> Option Oper
 | [], _ => none
 | o :: _, 0 => some o
 | _ :: l, i + 1 => UJ l i
theorem KP : ∀ (l : List Oper) (i : Nat), UJ l i = l[i]?
 | [], _ => rfl
 | _ :: _, 0 => rfl
 | _ :: l, i + 1 => by rw [List.getElem?_cons_succ]; exact KP l i
def pa (P : Program) (ops : Array Oper) (S : World -> Prop) (K : Act -> Prop) : List Nat -> Act -> Prop
 | [], a => K a
 | i :: is, a => ∃ o v, UJ ops.toList i = some o /\ (Region.wanted o (yielded ops a.tmps) = true /\ (∀ w, S w -> (execOp a.eval o).run P w = .ok (.value v) w) \/ Region.wanted o (yielded ops a.tmps) = false /\ v = undef) /\ pa P ops S K is (a.put o.dst v)
theorem DL (hs : Region.noSelect ops = true) (hQ : ∀ c a d v w, Q (.panic c) (Act.put a (some d) v) w -> Q (.panic c) a w) {w : World} (hS : S w) : ∀ (is : List Nat) (li : Array Bool) (a : Act) (fuel : Nat), seqB ops is li = true -> pa P ops S (fun a' => wpAnyH P .any ops Q S fuel (UI is li) a' w) is a -> wpAnyH P .any ops Q S (fuel + is.length) li a w
 | [], li, a, fuel, _, h => h
 | i :: is, li, a, fuel, hb, hr => by
  obtain ⟨o, v, ho, hv, hr⟩ := hr;rw [KP, Array.getElem?_toList] at ho;unfold seqB at hb;simp only [Bool.and_eq_true] at hb;have k := DL hs hQ hS is (li.setIfInBounds i true) (a.put o.dst v) fuel hb.2 hr;exact wpAnyH_take ho hs hb.1.1 hb.1.2 (fun c a w hq => by
   cases hd : o.dst with
   | none => rw [hd] at hq; exact hq
   | some d => rw [hd] at hq; exact hQ c a _ _ w hq) hv hS k
theorem nI {w : World} (hS : S w) (n : Nat) (is : List Nat) {li li' : Array Bool} {a : Act} {fuel fuel' : Nat} (hn : is.length = n) (hb : (Region.noSelect ops && seqB ops is li) = true) (hQ : ∀ c a d v w, Q (.panic c) (Act.put a (some d) v) w -> Q (.panic c) a w) (hf : fuel = fuel' + n) (hl : UI is li = li')
  (hr : pa P ops S (fun a' => wpAnyH P .any ops Q S fuel' li' a' w) is a) : wpAnyH P .any ops Q S fuel li a w := by
 subst hn hf hl;rw [Bool.and_eq_true] at hb;exact DL hb.1 hQ hS is li a fuel' hb.2 hr
theorem nW {a : Act} {o : Oper} (ty : TypeId) (x : Operand) (p : Addr) {v : Value} {w : World} (ho : o.op = .load ty x) (hx : a.eval x = .pointer (some p)) (hv : (Instr.loadAt ty (.pointer (some p))).run P w = .ok v w) : (execOp a.eval o).run P w = .ok (.value v) w := by
 exact mv
theorem r5 {w : World} {o : Oper} {a : Act} (t : TypeId) (parts : Array (Nat × Operand)) (ho : o.op = .build t parts) (pc : Array (Nat × Value)) (hv : parts.map (fun (i, x) => (i, a.eval x)) = pc) {v : Value} (hr : (Instr.build t pc).run P w = .ok v w) : (execOp a.eval o).run P w = .ok (.value v) w := by
 exact mw
end
theorem KR {t e : TypeId} {sz ba oa k n c : Nat} (ht : prog.underlying t = some (.slice e)) (hs : (prog.info? e).map (·.size) = some sz) (hz : 0 < sz) (hk : k < n) (w : World) : (Instr.indexAt t (.slice (some ⟨ba, oa, none⟩) n c) (.int .i64 k)).run prog w = .ok (.pointer (some ⟨ba, oa + k * sz, none⟩)) w := by
 have h1 : (k : Int) < n := ak;obtain ⟨i, hi, hsize⟩ := Option.map_eq_some_iff.1 hs;simp [Instr.indexAt, run_underlying ht, asIntOf, sizeOf, typeInfo, hi, hsize, h1, Addr.add];rw [if_pos hk];by_cases h0 : k * sz = 0
 ·rw [if_pos h0, h0]; rfl
 ·rw [if_neg h0]
theorem AY {t e : TypeId} {sz ba oa k n c : Nat} {o : Oper} {a : Act} (ht : prog.underlying t = some (.slice e)) (hs : (prog.info? e).map (·.size) = some sz) (hz : 0 < sz) (x y : Operand) (ho : o.op = .indexAddr t x y) (hx : a.eval x = .slice (some ⟨ba, oa, none⟩) n c) (hy : a.eval y = .int .i64 k) (hk : k < n) (w : World) : (execOp a.eval o).run prog w = .ok (.value (.pointer (some ⟨ba, oa + k * sz, none⟩))) w := by
 have hr := KR (ba := ba) (oa := oa) (c := c) ht hs hz hk w;unfold execOp;simp only [ho, hx, hy, Sem.run_bind, hr, Result.andThen_ok, Sem.run_pure]
theorem vb {w : World} {b o : Nat} {sub : List Value} {ty : TypeId} {d : TypeDesc} (h : w.rangeAt b o sub) (hu : prog.underlying ty = some d) (hd : d.isRow = true) (hi : (prog.info? ty).map (·.size) = some sub.length) : (Instr.loadAt ty (.pointer (some ⟨b, o, none⟩))).run prog w = .ok (.agg sub.toArray) w := run_loadAt_mid w b o ty sub d h hu hd hi
set_option maxRecDepth 100000
def KS (p : oi × Int) : List Value := p.1.cells ++ [.int .i64 p.2]
def VT : List Value := KS (oi.zero, 0)
theorem Fa {p : oi × Int} (h : p.1.ip.length = 16) : (KS p).length = 19 := by simp [KS, p.1.nV h]
theorem Sw (p : oi × Int) : ∀ v ∈ KS p, v.oneCell' = true := by
 intro v hv;rcases List.mem_append.1 hv with h | h
 ·exact p.1.qb v h
 ·simp at h; subst h; rfl
theorem UK {p : oi × Int} (h : p.1.ip.length = 16) : ((KS p).drop 0).take 18 = p.1.cells := by rw [List.drop_zero]; exact List.take_left' (p.1.nV h)
theorem UL {p : oi × Int} (h : p.1.ip.length = 16) : (KS p)[18]? = some (.int .i64 p.2) := by
 unfold KS; rw [List.getElem?_append_right (by rw [p.1.nV h]; omega), p.1.nV h]; rfl
theorem KT : (prog.info? 236).map (·.size) = some 19 := by kernel_rfl
theorem KU : (prog.info? 236).map (fun i => (i.zero, i.size, i.bytes)) = some (some (.agg VT.toArray), 19, 40) := by kernel_rfl
def PF (cs : List Value) (p : oi × Int) : Prop := cs = KS p /\ p.1.ip.length = 16
abbrev VU (w : World) (B : Nat) (v : Value) (l : List (oi × Int)) : Prop := nZ w B 236 19 PF v l
abbrev UM (w : World) (A : Option Addr) (l : List (oi × Int)) : Prop := Vm w 19 PF A l
def Hm (a : oi) : Int := if a.fam = 4 then 32 else if a.fam = 6 then 128 else 0
def yG (p : oi × Int) : Int := if p.1.check ≠ 0 then p.1.check else if p.2 < 0 \/ Hm p.1 < p.2 then 4 else 0
def Hn (p : oi × Int) : Bool := yG p == 0
theorem PG (a : oi) (h : a.ip.length = 16) (w : World) : Calls prog 222 #[.agg a.cells.toArray] w (nM (.int .i64 (Hm a)) w) := by
 have c0 := (nj.new w 24 a.cells).nf 0 (u := .int .i64 a.fam) rfl;have HB : Below w.heap.size w (w.alloc (.cells a.cells.toArray 24)) := eC;have K : Hm a = if a.fam = 4 then 32 else if a.fam = 6 then 128 else 0 := rfl
 have HK := Hh K;clear K h;generalize a.cells = L at *;generalize a.fam = f at *;go_enter func222, ntmps222;by_cases h4 : f = 4
 ·subst h4;exact mJ
 ·
  have h4' : (f == 4) = false := by simpa using h4
  by_cases h6 : f = 6
  ·subst h6;exact mJ
  ·have h6' : (f == 6) = false := jw;rw [if_neg h4, if_neg h6] at HK;clear h4 h6;exact mJ
theorem MQ (p : oi × Int) (h : p.1.ip.length = 16) (w : World) : Calls prog 185 #[.agg (KS p).toArray] w (nM (.int .i64 (yG p)) w) := by
 have hcl := Fa h;have hca := UK h;have B := nj.new w 236 (KS p);have c18 := B.nf 18 (UL h);have AC := Hh (fun W => uq p.1 h W);have BA := Hh (fun W => PG p.1 h W);have HB : Below w.heap.size w (w.alloc (.cells (KS p).toArray 236)) := eC;have K : yG p = if p.1.check ≠ 0 then p.1.check else if p.2 < 0 \/ Hm p.1 < p.2 then 4 else 0 := rfl
 have HK := Hh K;have HCA := Hh hca;clear K h hca;generalize KS p = L at *;generalize p.1.cells = M at *;generalize p.1.check = ck at *;generalize Hm p.1 = bt at *;generalize p.2 = n at *;go_enter func185, ntmps185;go_wp2_with (refine nh (.load 24 (.tmp 4)) rfl ?_; go_must (refine ni rfl _ _ rfl w.heap.size 0 rfl B 18 ak _ underlying24 rfl vp M HCA.out ?_));refine (AC.out _).mono ?_;rintro _ w1 ⟨rfl, b1⟩;have B1 := B.below b1 B.lt;have H1 := nc HB HB.size b1;have p18 : L[18]? = some (.int .i64 n) := by rw [<- B.cell 18]; exact c18
 clear b1 c18 HB AC;by_cases hck : ck = 0
 case neg => have hck' : (ck != 0) = true := jl;rw [if_pos hck] at HK;clear hck B;go_wp2_with fail;go_ret;exact nM.mk bE H1
 have hck' : (ck != 0) = false := jl;rw [if_neg (by simpa using hck)] at HK;have LD : Hid (∀ V, Below w1.heap.size w1 V -> (Instr.loadAt 3 (.pointer (some ⟨w.heap.size, 18, none⟩))).run prog V = .ok (.int .i64 n) V) := Hh (fun V hV => nN underlying3 rfl ((B1.below hV B1.lt).nf 18 p18));have LA : Hid (∀ V, Below w1.heap.size w1 V -> (Instr.loadAt 24 (.pointer (some ⟨w.heap.size, 0, none⟩))).run prog V = .ok (.agg M.toArray) V) := Hh (fun V hV => (B1.below hV B1.lt).pF 24 0 18 ak _ underlying24 rfl vp _ HCA.out);clear hck B;go_wp2_with fail;by_cases hn : n < 0
 case pos =>
  have hn' : decide (n < 0) = true := jv;rw [if_pos (.inl hn)] at HK;refine wp_region_held_drew (S := fun V => Below w1.heap.size w1 V) (by kernel_rfl) (Below.refl _ _).drew (fun hS => ?_);refine nI hS 11 [0,1,2,3,4,5,6,7,8,9,10] rfl (by kernel_rfl) (fun _ _ _ _ _ h => h) rfl rfl ?_;repeat (refine ⟨_, _, rfl, .inl ⟨rfl, fun W hW => rfl⟩, ?_⟩; simp only [Act.put, nB, nC, nD])
  (refine ⟨_, _, rfl, .inl ⟨rfl, fun V hV => (nW 3 (.tmp 10) ⟨w.heap.size, 18, none⟩ rfl rfl (LD.out V hV))⟩, ?_⟩; simp only [Act.put, nB, nC, nD])
  repeat (refine ⟨_, _, rfl, .inl ⟨rfl, fun W hW => rfl⟩, ?_⟩; simp only [Act.put, nB, nC, nD])
  simp only [hn'];repeat (refine ⟨_, undef, rfl, .inr ⟨rfl, rfl⟩, ?_⟩; simp only [Act.put, nB, nC, nD])
  repeat (refine ⟨_, _, rfl, .inl ⟨rfl, fun W hW => rfl⟩, ?_⟩; simp only [Act.put, nB, nC, nD])
  simp only [pa];refine wpAnyH_done (by kernel_rfl) ?_ _;go_wp2_with fail;go_ret;exact nM.mk bE (nc H1 H1.size hS)
 have hn' : decide (n < 0) = false := jv;refine wp_region_held_drew (S := fun V => Below w1.heap.size w1 V) (by kernel_rfl) (Below.refl _ _).drew (fun hS => ?_);refine nI hS 8 [0,1,2,3,4,5,6,7] rfl (by kernel_rfl) (fun _ _ _ _ _ h => h) rfl rfl ?_;repeat (refine ⟨_, _, rfl, .inl ⟨rfl, fun W hW => rfl⟩, ?_⟩; simp only [Act.put, nB, nC, nD])
 (refine ⟨_, _, rfl, .inl ⟨rfl, fun V hV => (nW 3 (.tmp 10) ⟨w.heap.size, 18, none⟩ rfl rfl (LD.out V hV))⟩, ?_⟩; simp only [Act.put, nB, nC, nD])
 repeat (refine ⟨_, _, rfl, .inl ⟨rfl, fun W hW => rfl⟩, ?_⟩; simp only [Act.put, nB, nC, nD])
 simp only [hn'];repeat (refine ⟨_, _, rfl, .inl ⟨rfl, fun W hW => rfl⟩, ?_⟩; simp only [Act.put, nB, nC, nD])
 (refine ⟨_, _, rfl, .inl ⟨rfl, fun V hV => (nW 3 (.tmp 14) ⟨w.heap.size, 18, none⟩ rfl rfl (LD.out V hV))⟩, ?_⟩; simp only [Act.put, nB, nC, nD])
 repeat (refine ⟨_, _, rfl, .inl ⟨rfl, fun W hW => rfl⟩, ?_⟩; simp only [Act.put, nB, nC, nD])
 (refine ⟨_, _, rfl, .inl ⟨rfl, fun V hV => (nW 24 (.tmp 16) ⟨w.heap.size, 0, none⟩ rfl rfl (LA.out V hV))⟩, ?_⟩; simp only [Act.put, nB, nC, nD])
 simp only [pa];refine oY 8 (some 18) 222 #[.agg M.toArray] (by kernel_rfl) rfl rfl (by kernel_rfl) aS (BA.out _) ?_;rintro _ w2 ⟨rfl, b2⟩;refine ⟨_, rfl, nc hS hS.size b2, ?_⟩;have hS := nc hS hS.size b2;simp only [Act.put, nB, nC, nD];refine nI hS 2 [9,10] rfl (by kernel_rfl) (fun _ _ _ _ _ h => h) rfl rfl ?_;repeat (refine ⟨_, _, rfl, .inl ⟨rfl, fun W hW => rfl⟩, ?_⟩; simp only [Act.put, nB, nC, nD])
 simp only [pa];refine wpAnyH_done (by kernel_rfl) ?_ _;have HE : Hid (yG p = if bt < n then 4 else 0) := Hh (by rw [HK.out]; by_cases h : bt < n <;> simp [h, hn]);clear HK LD LA b2 B1;by_cases hb : bt < n;all_goals
  go_wp2_with fail;go_ret;exact nM.mk (by rw [HE.out]; first | (rw [if_pos hb]; rfl) | (rw [if_neg ak]; rfl)) (nc H1 H1.size hS)
theorem CW (p : oi × Int) (h : p.1.ip.length = 16) (w : World) : Calls prog 133 #[.agg (KS p).toArray] w (nM (.bool (Hn p)) w) := by
 have hcl := Fa h;have AC := Hh (fun W => MQ p h W);have K : Hn p = (yG p == 0) := rfl;have HK := Hh K;clear K;generalize KS p = L at *;generalize yG p = ck at *;have HB : Below w.heap.size w (w.alloc (.cells L.toArray 236)) := eC;go_enter func133, ntmps133;go_wp2_with (refine nh (.load 236 (.tmp 1)) rfl ?_; go_must (refine ni rfl _ _ rfl w.heap.size 0 rfl (nj.new w 236 L) 19 ak _ underlying236 rfl KT L (qj ak) ?_));exact lS
set_option maxHeartbeats 1000000 in
theorem MR (A : Option Addr) (c : Nat) (l : List (oi × Int)) (m : Nat) (w : World) (hA : UM w A l) (hl : l.length <= 17592186044416) (hm : m <= 100) :
  Calls prog 132 #[.slice A l.length c, .int .i64 m, .func (.func 133) #[] #[]] w (wK 236 19 (fun _ => PF) (rK Hn l m) w) := by
 have hadz : VT.length = 19 := rfl;obtain ⟨p, hp⟩ : ∃ p, p = Hn := eE;have MS := Hh (fun a h W => CW a h W);rw [<- hp] at MS ⊢;clear hp;go_enter func132, ntmps132;go_wp2_with fail;go_loopw [7, 12] (fun kv iv wr => ∃ k : Nat, k <= l.length /\ iv = .int .i64 k /\ VU wr w.heap.size kv ((l.take k).filter p) /\ ((l.take k).filter p).length <= m /\ Below w.heap.size w wr) (fun _ iv _ => l.length - (intOf iv).toNat)
 case atStart => exact ⟨0, Nat.zero_le _, rfl, nZ.nil _ _ _ _ _, ag, Below.refl _ _⟩
 obtain ⟨k, hk, rfl, ho, hle, hB⟩ := hrel;obtain ⟨Ak, ck, hv⟩ := ho.form;subst hv;by_cases hlt : k < l.length
 case neg => exact kj
 have hlt' : (k : Int) < l.length := ak;obtain ⟨b, off, rfl, hb, hr⟩ := hA ak;obtain ⟨cs, hcs, hce, hip⟩ := hr k hlt;have hcs := nO hcs hB hb;have hcl : cs.length = 19 := by rw [hce]; exact Fa hip
 have hone : ∀ v ∈ cs, v.oneCell' = true := by rw [hce]; exact Sw _
 have MK : Hid (∀ W, Calls prog 133 #[.agg cs.toArray] W (nM (.bool (p l[k])) W)) := ja;have HC := Hh hce;have HO := Hh ho;have HI := Hh hip;clear hce hip hr ho hA;have W1 : Below wr.heap.size wr (wr.alloc (.cells VT.toArray 236)) := eC;by_cases hful : ((l.take k).filter p).length < m
 case neg =>
  have hful' : ¬ (((l.take k).filter p).length : Int) < m := ak;go_wp2_with (first
   | (refine nh (.load 236 (.tmp 14)) rfl ?_; go_must (refine pv rfl 236 (.tmp 14) rfl b (off + k * 19) rfl cs hcs _ underlying236 rfl bK ?_))
   | (refine nh (.store 236 (.tmp 9) (.tmp 15)) rfl (ab rfl wr.heap.size 0 cs (nj.new wr 236 VT) bG bK hone ?_)))
  intro w1 B1 g1 _;have H1 := ng (nc hB hB.size W1) g1 aD hB.size;have K1 := ng W1 g1 W1.size (Nat.le_refl _);clear g1 B1 W1;go_wp2_with fail;go_ret;refine ⟨_, rfl, ?_, H1⟩;have e : ((l.take k).filter p).length = m := ak;rw [yE e];exact nZ.below (R' := PF) HO.out K1 (fun _ _ h => h)
 have hful' : (((l.take k).filter p).length : Int) < m := ak;go_wp2_with (first
  | (refine nh (.load 236 (.tmp 14)) rfl ?_; go_must (refine pv rfl 236 (.tmp 14) rfl b (off + k * 19) rfl cs hcs _ underlying236 rfl bK ?_))
  | (refine nh (.store 236 (.tmp 9) (.tmp 15)) rfl (ab rfl wr.heap.size 0 cs (nj.new wr 236 VT) bG bK hone ?_)))
 intro w1 B1 g1 _;have B1' := oH B1 ak;have H1 := ng (nc hB hB.size W1) g1 aD hB.size;clear B1;go_wp2_with (refine nh (.load 236 (.tmp 9)) rfl ?_; go_must (refine ni rfl _ _ rfl wr.heap.size 0 rfl B1' 19 ak _ underlying236 rfl KT cs (qj ak) ?_));refine (MK.out _).mono ?_;rintro _ w2 ⟨rfl, b2⟩;have B2 := B1'.below b2 B1'.lt;have H2 := nc H1 H1.size b2;have K2 := nc (ng W1 g1 W1.size (Nat.le_refl _)) bH b2;have O2 := nZ.below (R' := PF) HO.out K2 (fun _ _ h => h);have FS := Hh (uh (p := p) hlt);have hlen : ((l.take k).filter p).length + 1 <= 200 := ak;clear MS MK hcs W1 g1 b2 B1' HO H1;cases hpk : p l[k] with
 | false => exact kP
 | true =>
  rw [hpk] at FS;have HP := Hh hpk;have K3 : Below w2.heap.size w2 (w2.alloc (.cells cs.toArray 236)) := eC;have O3 := nZ.below (R' := PF) O2 K3 (fun _ _ h => h);have N3 := O2.ne (Nat.le_refl _);clear hpk;go_wp2_with (first
   | (refine nh (.load 236 (.tmp 9)) rfl ?_; go_must (refine ni rfl _ _ rfl wr.heap.size 0 rfl B2 19 ak _ underlying236 rfl KT cs (qj ak) ?_))
   | (refine nh (.buildSlice 67 1 #[(0, .tmp 24)]) rfl ?_; go_must (refine xj rfl 67 236 _ 19 40 underlying67 KU aj aj (.tmp 24) rfl cs rfl hcl ?_))
   | (at_builtin; go_must (refine sZ _ rfl _ _ 67 rfl 236 _ 19 40 underlying67 KU (by kernel_rfl) aj w.heap.size _ _ rfl O3 bI w2.heap.size cs l[k] rfl (nj.new _ _ _) N3 hcl hone ⟨HC.out, HI.out⟩ aA ak ?_)))
  intro v' w4 O4 g4;have H4 := (nc H2 H2.size K3).grown g4 bI O3.base;clear g4 K3 O3 O2 N3 B2 H2;exact kr
def TX (w : World) (cs : List Value) (n : List (List UInt8)) : Prop := ∃ A c, cs = [.slice A n.length c] /\ rQ w A c n
abbrev VV (w0 w : World) (B : Nat) (v : Value) (l : List (List (List UInt8))) : Prop := nZ w B 26 1 (TX w0) v l
theorem MT {w w' : World} {A : Option Addr} {l : List (List (List UInt8))} (h : yu w A l) (hb : Below w.heap.size w w') : yu w' A l := by
 intro hp;obtain ⟨b, off, h1, h2, h3⟩ := h hp;refine ⟨b, off, h1, Nat.lt_of_lt_of_le h2 hb.size, fun i hi => ?_⟩;obtain ⟨Ai, ci, h4, h5⟩ := h3 i hi;exact ⟨Ai, ci, (hb.cell (p := ⟨b, off + i, none⟩) h2).trans h4, h5.below hb⟩
def Ho (n : List (List UInt8)) : Bool := decide (0 < n.length) && (nH n == 0)
theorem Sx : (prog.info? 26).map (fun i => (i.zero, i.size, i.bytes)) = some (some nA, 1, 24) := by kernel_rfl
theorem Hr (A : Option Addr) (c : Nat) (n : List (List UInt8)) (hm : n.length <= 281474976710656) (w : World) (h : vz w A n) : Calls prog 131 #[.slice A n.length c] w (rN (.bool (Ho n)) w) := by
 have DC := Hh (rP A c n w h hm);have K : Ho n = (decide (0 < n.length) && (nH n == 0)) := rfl;have HK := Hh K;clear K h;generalize nH n = ck at *;go_enter func131, ntmps131;by_cases h0 : 0 < n.length
 case neg => have h0' : decide (0 < n.length) = false := iC;have e : n.length = 0 := ak;rw [e] at DC ⊢;rw [h0'] at HK;clear h0 h0' e;go_wp2_with fail;go_ret;exact rN.mk bE rfl
 have h0' : (0 : Int) < n.length := ak;have h0'' : decide (0 < n.length) = true := iC;rw [h0''] at HK;clear h0'';go_wp2_with fail;refine DC.out.mono ?_;rintro _ w1 ⟨rfl, rfl⟩;go_wp2_with fail;go_ret;exact rN.mk bE rfl
set_option maxHeartbeats 1000000 in
theorem MU (w0 : World) (A : Option Addr) (c : Nat) (l : List (List (List UInt8))) (m : Nat) (w : World) (hA : yu w0 A l) (hw : Below w0.heap.size w0 w) (hl : l.length <= 17592186044416) (hm : m <= 100) :
  Calls prog 130 #[.slice A l.length c, .int .i64 m, .func (.func 131) #[] #[]] w (wK 26 1 (fun _ => TX w0) (rK Ho l m) w) := by
 obtain ⟨p, hp⟩ : ∃ p, p = Ho := eE;have MS := Hh (fun A c n W h1 h2 => Hr A c n W h1 h2);rw [<- hp] at MS ⊢;clear hp;go_enter func130, ntmps130;go_wp2_with fail;go_loopw [7, 12] (fun kv iv wr => ∃ k : Nat, k <= l.length /\ iv = .int .i64 k /\ VV w0 wr w.heap.size kv ((l.take k).filter p) /\ ((l.take k).filter p).length <= m /\ Below w.heap.size w wr) (fun _ iv _ => l.length - (intOf iv).toNat)
 case atStart => exact ⟨0, Nat.zero_le _, rfl, nZ.nil _ _ _ _ _, ag, Below.refl _ _⟩
 obtain ⟨k, hk, rfl, ho, hle, hB⟩ := hrel;obtain ⟨Ak, ck, hv⟩ := ho.form;subst hv;by_cases hlt : k < l.length
 case neg => exact kj
 have hlt' : (k : Int) < l.length := ak;obtain ⟨b, off, rfl, hb, hr⟩ := hA ak;obtain ⟨An, cn, ce, hnm⟩ := hr k hlt;have hBW := nc hw hw.size hB;replace ce := (hBW.cell (p := ⟨b, off + k, none⟩) hb).trans ce;have hln := hnm.2.2.1;have MK := Hh (MS.out An cn l[k] ak wr (hnm.below hBW).1);have HO := Hh ho;have HI := Hh hnm;clear hr ho hA MS hnm hBW hw;by_cases hful : ((l.take k).filter p).length < m
 case neg => have hful' : ¬ (((l.take k).filter p).length : Int) < m := ak;go_wp2_with fail;go_ret;refine ⟨_, rfl, ?_, hB⟩;have e : ((l.take k).filter p).length = m := ak;rw [yE e];exact HO.out
 have hful' : (((l.take k).filter p).length : Int) < m := ak;have FS := Hh (uh (p := p) hlt);have hlen : ((l.take k).filter p).length + 1 <= 200 := ak;have NI : Hid (TX w0 [.slice An l[k].length cn] l[k]) := Hh ⟨An, cn, rfl, HI.out⟩;generalize l[k].length = nl at *;go_wp2_with fail;refine MK.out.mono ?_;rintro _ w2 ⟨rfl, rfl⟩;clear MK;cases hpk : p l[k] with
 | false =>
  rw [hpk] at FS;have HP := Hh hpk;clear hpk;go_wp2_with fail;go_roundw
  case rel => exact ⟨k + 1, ak, eh, by rw [FS.out]; simpa using HO.out, by rw [FS.out]; simpa using hle, hB⟩
  case measure => simp [intOf]; omega
 | true => rw [hpk] at FS;have HP := Hh hpk;have K3 : Below wr.heap.size wr (wr.alloc (.cells #[.slice An nl cn] 26)) := eC;have N3 := HO.out.ne (Nat.le_refl _);clear hpk;go_wp2_with (at_builtin; go_must (refine sZ _ rfl _ _ 66 rfl 26 _ 1 24 underlying66 Sx (by kernel_rfl) aj w.heap.size _ _ rfl (nZ.below (R' := TX w0) HO.out K3 (fun _ _ h => h)) aD wr.heap.size [.slice An nl cn] l[k] rfl (nj.new _ _ _) N3 rfl aJ NI.out aA ak ?_));intro v' w4 O4 g4;have H4 := (nc hB hB.size K3).grown g4 aD HO.out.base;clear g4 K3 N3;exact kr
end Go.Proofs.YthnbcmlnpdabhaaGreat
