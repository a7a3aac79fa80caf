/-
  Layer 34 (host): a look for a host's addresses, in memory.
-/
import Derived.Test.YteimenplbanooaaGreatDoorRBMq
namespace Go.Proofs.YteimenplbanooaaGreatDoor
open _root_.Go.Proofs.Tryz
open Go.RowKit
set_option maxRecDepth 100000
set_option linter.unusedVariables false
set_option linter.unusedSimpArgs false
structure Hc where
 vh : Value
 vs : Value
 vv : Value
 nv : Value
 cv : Value
 fam : Int
 turn : Int
 gl : Nat
 av : Value
 next : Nat
 ag : Bool
 nd : Bool
 bg : Nat
 pp : Option Nat
 tv : Value
 sent : Nat
 dn : Bool
 r0 : Int
 r1 : Value
 r2 : Value
 r3 : Int
def hcU (c : Hc) : List Value := [c.vh, c.vs, c.vv, c.nv, c.cv, .int .i64 c.fam, .int .i64 c.turn, .pointer (some ⟨c.gl, 0, none⟩), c.av, .int .i64 (c.next : Int), .bool c.ag, .bool c.nd, .int .i64 (c.bg : Int), ptrV c.pp, c.tv, .int .i64 (c.sent : Int), .bool c.dn, .int .i64 c.r0, c.r1, c.r2, .int .i64 c.r3]
def HK (w : World) (g : Nat) (T : List Value) (c : Hc) : Prop := Blk w g 185 (T ++ hcU c) ∧ T.length = 10
section
variable {w w' : World} {g : Nat} {T : List Value} {c : Hc}
theorem HK.len (h : HK w g T c) : (T ++ hcU c).length = 31 := by rw [List.length_append, h.2]; rfl
theorem HK.ci (h : HK w g T c) {u : Value} (i : Nat) (hu : (hcU c)[i]? = some u) : w.cell? ⟨g, 10 + i, none⟩ = some u := h.1.cell_ (10 + i) ((t10_get h.2 _ i).trans hu)
theorem HK.below (h : HK w g T c) (k : Below w.heap.size w w') : HK w' g T c := ⟨h.1.below k h.1.lt, h.2⟩
theorem HK.same {T' : List Value} (h : HK w g T c) (h' : HK w g T' c) : T' = T := by
 have h1 := h'.1
 have h2 := h.1
 unfold Blk at h1 h2
 rw [h2] at h1
 injection h1 with h1
 injection h1 with h1
 have e : T' ++ hcU c = T ++ hcU c := by simpa using (congrArg Array.toList h1).symm
 exact List.append_cancel_right e
theorem HK.put (h : HK w g T c) {c' : Hc} (i : Nat) {v : Value} (hb : Blk w' g 185 ((T ++ hcU c).set (10 + i) v)) (hM : (hcU c).set i v = hcU c') : HK w' g T c' := ⟨by rw [t10_set h.2, hM] at hb; exact hb, h.2⟩
end
structure HsD where
 r : Rs
 hs : List Hst
 ss : List Src
 nm : List (List UInt8)
 cd : List (List (List UInt8))
 fam : Int
 turn : Int
structure HsP (D : HsD) : Prop where
 rs : D.r.sv.length ≤ 100 ∧ D.r.se.length ≤ 100 ∧ D.r.so.length ≤ 100
 hs : ∀ h ∈ D.hs, HstF h
 hl : D.hs.length ≤ 1000
 sl : D.ss.length ≤ 8
 nm : checkN D.nm = 0
 cl : D.cd.length ≤ 7
 cn : ∀ n ∈ D.cd, checkN n = 0
def seqI (n : Nat) : List Int := (List.range n).map (fun i : Nat => (i : Int))
theorem seqI_succ (n : Nat) : seqI (n + 1) = seqI n ++ [(n : Int)] := by unfold seqI; rw [List.range_succ, List.map_append]; rfl
theorem seqI_len (n : Nat) : (seqI n).length = n := by simp [seqI]
def AdsB (w : World) (v : Value) (xs : List Adr) : Prop := AdsO w 0 v xs ∧ xs.length ≤ 64
theorem AdsB.fr {S : Nat → Prop} {w w' : World} {v : Value} {xs : List Adr} (h : AdsB w v xs) (k : Fr S w w') : AdsB w' v xs := ⟨h.1.stays (fun _ x => k.own x (by unfold StTy; decide)) (fun _ _ x => x), h.2⟩
theorem AdsB.below {w w' : World} {v : Value} {xs : List Adr} (h : AdsB w v xs) (k : Below w.heap.size w w') : AdsB w' v xs := ⟨LOwn.below h.1 k (fun _ _ x => x), h.2⟩
structure HsAt (w0 w : World) (b g gl : Nat) (D : HsD) (c : Hc) (n : Nat) : Prop where
 k : ∃ T, HK w g T c ∧ RsO w0 w T D.r
 hs : LOwn w 0 196 19 (HstO w0 w) c.vh D.hs
 ss : LOwn w 0 147 5 SrcI c.vs D.ss
 nm : NmO w c.nv D.nm
 cd : CdsO w 0 c.cv D.cd
 as_ : w.ownsRow g 3 1 c.av n (i64s (seqI n))
 td : ∃ l : List Td, TdsO w g c.tv l ∧ l.length + (if c.pp = none then 0 else 2) ≤ 2 * c.bg
 r1 : ∃ xs : List Adr, AdsB w c.r1 xs
 ba : Below w0.heap.size w0 w
 wb : w0.heap.size ≤ b
 bl : b ≤ gl
 lg : gl < g
 eq : c.gl = gl ∧ c.fam = D.fam ∧ c.turn = D.turn ∧ c.r2.oneCell' = true ∧ c.vv.oneCell' = true
def HoTy (t : TypeId) : Prop := t = 185
theorem HstO.fr {S : Nat → Prop} {w0 w w' : World} {cs : List Value} {h : Hst} (x : HstO w0 w cs h) (k : Fr S w w') : HstO w0 w' cs h := by
 obtain ⟨v, h0, h1, h2⟩ := x
 exact ⟨v, h0, h1, h2.stays (fun _ x => k.own x (by unfold StTy; decide)) (fun _ _ x => x)⟩
section
variable {w0 w w' : World} {b g gl n : Nat} {D : HsD} {c : Hc}
theorem HsAt.blk (h : HsAt w0 w b g gl D c n) : ∃ L, Blk w g 185 L := by obtain ⟨T, k, _⟩ := h.k; exact ⟨_, k.1⟩
theorem HsAt.frT {p : TypeId → Prop} {b' : Nat} (h : HsAt w0 w b g gl D c n) (k : Fr (TyS w p b') w w') (hb : b ≤ b') (h1 : ¬ p 185) (h2 : ¬ p 284) : HsAt w0 w' b g gl D c n := by
 obtain ⟨T, hk, hr⟩ := h.k
 obtain ⟨l, htl, hll⟩ := h.td
 obtain ⟨xs, hxs⟩ := h.r1
 exact ⟨⟨T, ⟨k.blk hk.1 (TyS.not hk.1 h1), hk.2⟩, hr.fr k⟩, h.hs.stays (fun _ x => k.own x (by unfold StTy; decide)) (fun _ _ x => x.fr k), h.ss.stays (fun _ x => k.own x (by unfold StTy; decide)) (fun _ _ x => x), h.nm.stays k.stays, h.cd.stays (fun _ x => k.own x (by unfold StTy; decide)) (fun _ _ x => x.stays k.stays), k.own h.as_ (by unfold StTy; decide), ⟨l, htl.stays (fun _ x => k.ownT x h2) (fun _ _ x => x.fr k), hll⟩, ⟨xs, hxs.fr k⟩, k.toBelowT h.ba h.ba.size (Nat.le_trans h.wb hb), h.wb, h.bl, h.lg, h.eq⟩
theorem HsAt.below (h : HsAt w0 w b g gl D c n) (k : Below w.heap.size w w') : HsAt w0 w' b g gl D c n :=
 h.frT (p := fun _ => False) (b' := b) (Fr.below k) (Nat.le_refl _) id id
theorem HsAt.upd {p : TypeId → Prop} (h : HsAt w0 w b g gl D c n) {c' : Hc} (k : Fr (TyS w p b) w w') {T : List Value} (hk : HK w g T c) (hk' : HK w' g T c') (e : c'.vh = c.vh ∧ c'.vs = c.vs ∧ c'.nv = c.nv ∧ c'.cv = c.cv ∧ c'.av = c.av ∧ c'.vv = c.vv) (hf : c'.gl = c.gl ∧ c'.fam = c.fam ∧ c'.turn = c.turn) (htd : ∃ l : List Td, TdsO w' g c'.tv l ∧ l.length + (if c'.pp = none then 0 else 2) ≤ 2 * c'.bg) (hr1 : ∃ xs : List Adr, AdsB w c'.r1 xs) (hr2 : c'.r2.oneCell' = true) : HsAt w0 w' b g gl D c' n := by
 obtain ⟨T', hk2, hr⟩ := h.k
 have := hk.same hk2
 subst this
 obtain ⟨xs, hxs⟩ := hr1
 obtain ⟨e1, e2, e3, e4, e5, e7⟩ := e
 obtain ⟨f1, f2, f3⟩ := hf
 refine ⟨⟨_, hk', hr.fr k⟩, ?_, ?_, ?_, ?_, ?_, htd, ⟨xs, hxs.fr k⟩, k.toBelowT h.ba h.ba.size h.wb, h.wb, h.bl, h.lg, ?_⟩
 ·
  rw [e1]; exact h.hs.stays (fun _ x => k.own x (by unfold StTy; decide)) (fun _ _ x => x.fr k)
 ·
  rw [e2]; exact h.ss.stays (fun _ x => k.own x (by unfold StTy; decide)) (fun _ _ x => x)
 ·
  rw [e3]; exact h.nm.stays k.stays
 ·
  rw [e4]; exact h.cd.stays (fun _ x => k.own x (by unfold StTy; decide)) (fun _ _ x => x.stays k.stays)
 ·
  rw [e5]; exact k.own h.as_ (by unfold StTy; decide)
 ·
  obtain ⟨q1, q2, q3, q4, q5⟩ := h.eq
  exact ⟨f1.trans q1, f2.trans q2, f3.trans q3, hr2, by rw [e7]; exact q5⟩
theorem HsAt.put (h : HsAt w0 w b g gl D c n) {c' : Hc} (hg : w.grownBy w' (some g)) {T : List Value} (hk : HK w g T c) (hk' : HK w' g T c') (e : c'.vh = c.vh ∧ c'.vs = c.vs ∧ c'.nv = c.nv ∧ c'.cv = c.cv ∧ c'.av = c.av ∧ c'.tv = c.tv ∧ c'.vv = c.vv) (hf : c'.gl = c.gl ∧ c'.fam = c.fam ∧ c'.turn = c.turn) (hbg : ∀ m : Nat, m + (if c.pp = none then 0 else 2) ≤ 2 * c.bg → m + (if c'.pp = none then 0 else 2) ≤ 2 * c'.bg) (hr1 : ∃ xs : List Adr, AdsB w c'.r1 xs) (hr2 : c'.r2.oneCell' = true) : HsAt w0 w' b g gl D c' n := by
 obtain ⟨e1, e2, e3, e4, e5, e6, e7⟩ := e
 have k : Fr (TyS w HoTy b) w w' := Fr.grown hg hk.1 (by unfold StTy; decide) ⟨Nat.le_trans h.bl (Nat.le_of_lt h.lg), _, _, hk.1, rfl⟩
 obtain ⟨l, htl, hll⟩ := h.td
 exact h.upd k hk hk' ⟨e1, e2, e3, e4, e5, e7⟩ hf ⟨l, by rw [e6]; exact htl.stays (fun _ x => k.ownT x (by unfold HoTy; decide)) (fun _ _ x => x.fr k), hbg _ hll⟩ hr1 hr2
theorem HsAt.frG (h : HsAt w0 w b g gl D c n) (hg : w.grownBy w' (some g)) : Fr (TyS w HoTy b) w w' := by
 obtain ⟨L, hk⟩ := h.blk
 exact Fr.grown hg hk (by unfold StTy; decide) ⟨Nat.le_trans h.bl (Nat.le_of_lt h.lg), _, _, hk, rfl⟩
end
def KeT (t : TypeId) : Prop := t = 415 ∨ t = 107
theorem KeT.st {t : TypeId} (h : KeT t) : t = 415 ∨ ¬ StTy t := by
 rcases h with h | h
 ·
  exact .inl h
 ·
  subst h; exact .inr (by unfold StTy; decide)
theorem KeT.ni {t : TypeId} (h : KeT t) : t ≠ 3 := by
 rcases h with h | h
 ·
  subst h; decide
 ·
  subst h; decide
def KeepO (lo : Nat) (w w' : World) : Prop := ∀ i L t, i < lo → KeT t → Blk w i t L → Blk w' i t L
theorem KeepO.refl (lo : Nat) (w : World) : KeepO lo w w := fun _ _ _ _ _ h => h
theorem KeepO.trans {lo : Nat} {a b c : World} (h : KeepO lo a b) (k : KeepO lo b c) : KeepO lo a c := fun i L t hi ht x => k i L t hi ht (h i L t hi ht x)
theorem KeepO.mono {lo lo' : Nat} {a b : World} (h : KeepO lo a b) (hl : lo' ≤ lo) : KeepO lo' a b := fun i L t hi ht x => h i L t (by omega) ht x
theorem KeepO.below {lo : Nat} {w w' : World} (k : Below w.heap.size w w') : KeepO lo w w' := fun i L t _ _ x => x.below k x.lt
theorem KeepO.fr {lo : Nat} {w w' : World} {p : TypeId → Prop} {b : Nat} (k : Fr (TyS w p b) w w') (h : ¬ p 415) : KeepO lo w w' := fun i L t _ ht x => by
 rcases ht.st with e | e
 ·
  subst e; exact k.blk x (TyS.not x h)
 ·
  exact k.blkT x e
theorem KeepO.ous {lo lo' : Nat} {w w' : World} {v : Value} {l : List Ou} (k : KeepO w.heap.size w w') (h : OusN lo w v l) : OusN lo w' v l := by
 obtain ⟨css, h1, h2⟩ := h
 refine ⟨css, ⟨h1.1, ?_⟩, h2⟩
 rcases h1.2 with h | ⟨g, cap, cur, hv, hB, hg, r⟩
 ·
  exact .inl h
 ·
  have hb : Blk w g 415 cur.toList := hg
  have := k g cur.toList _ hb.lt (.inl rfl) hb
  exact .inr ⟨g, cap, cur, hv, hB, this, r⟩
def nothingH (c : Hc) : Int := if c.ag then 4 else if c.nd then 2 else 3
theorem hnothing_any {w : World} {g : Nat} {T : List Value} {c : Hc} (h : HK w g T c) : Calls prog 205 #[.pointer (some ⟨g, 0, none⟩)] w (Ret (.int .i64 (nothingH c)) w) := by
 have d1 := h.ci 10 (u := .bool c.ag) rfl
 have d2 := h.ci 11 (u := .bool c.nd) rfl
 clear h
 unfold nothingH
 cases ha : c.ag with
 | true =>
  rw [ha] at d1
  clear d2 ha
  go_enter func205, ntmps205
  go_wp2_with fail
  go_ret
  exact Ret.mk rfl rfl
 | false =>
  rw [ha] at d1
  cases hn : c.nd with
  | true =>
   rw [hn] at d2
   clear ha hn
   go_enter func205, ntmps205
   go_wp2_with fail
   go_ret
   exact Ret.mk rfl rfl
  | false =>
   rw [hn] at d2
   clear ha hn
   go_enter func205, ntmps205
   go_wp2_with fail
   go_ret
   exact Ret.mk rfl rfl
theorem Each.take {α : Type} {R : List Value → α → Prop} : ∀ (m : Nat) {css : List (List Value)} {l : List α}, Each R css l → Each R (css.take m) (l.take m)
 | 0, _, _, _ => by simp only [List.take_zero]; exact trivial
 | m + 1, [], [], _ => trivial
 | m + 1, _ :: _, _ :: _, h => ⟨h.1, Each.take m h.2⟩
theorem LOwn.take {α : Type} {R : List Value → α → Prop} {w : World} {B : Nat} {e : TypeId} {k n c : Nat} {A : Option Addr} {l : List α} (hk : ∀ cs x, R cs x → cs.length = k) (h : LOwn w B e k R (.slice A n c) l) (m : Nat) (hm : m ≤ l.length) : LOwn w B e k R (.slice A m c) (l.take m) := by
 obtain ⟨css, h1, h2⟩ := h
 have hE := h2.take m
 have hl := each_len hk hE
 have hml : (l.take m).length = m := by rw [List.length_take]; omega
 have hfl : css.flatten = (css.take m).flatten ++ (css.drop m).flatten := by rw [← List.flatten_append, List.take_append_drop]
 refine ⟨css.take m, ⟨hl, ?_⟩, hE⟩
 rw [hml] at hl ⊢
 rcases h1.2 with ⟨hv, h0⟩ | ⟨g, cap, cur, hv, hB, hg, hc, hmx, hs, ht⟩
 ·
  injection hv with q1 q2 q3
  subst q1 q3
  have : m = 0 := by omega
  subst this
  exact .inl ⟨rfl, rfl⟩
 ·
  injection hv with q1 q2 q3
  subst q1 q3
  refine .inr ⟨g, c, cur, rfl, hB, hg, by omega, hmx, hs, ?_⟩
  have : cur.toList.take (m * k) = (cur.toList.take (l.length * k)).take (m * k) := by
   rw [List.take_take, Nat.min_eq_left (Nat.mul_le_mul_right _ hm)]
  rw [this, ht, hfl, List.take_left' hl]
theorem LOwn.cap {α : Type} {R : List Value → α → Prop} {w : World} {B : Nat} {e : TypeId} {k n c : Nat} {A : Option Addr} {l : List α} (h : LOwn w B e k R (.slice A n c) l) : n ≤ c ∧ n = l.length := by
 obtain ⟨css, h1, h2⟩ := h
 rcases h1.2 with ⟨hv, h0⟩ | ⟨g, cap, cur, hv, hB, hg, hc, hmx, hs, ht⟩
 ·
  injection hv with q1 q2 q3; omega
 ·
  injection hv with q1 q2 q3; omega
def famH (f : Int) : Int := if f = 4 ∨ f = 6 then f else 0
def filesH (D : HsD) : List Adr × List (List UInt8) := findP D.hs D.nm (famH D.fam)
def FlRet (D : HsD) (w : World) (e : Ending) (w' : World) : Prop := ∃ vd A k c vn xs, e = .returned (.agg [.int .i64 vd, .slice A k c, vn, .int .i64 0].toArray) ∧ vn.oneCell' = true ∧ k = (xs : List Adr).length ∧ AdsB w' (.slice A k c) xs ∧ Below w.heap.size w w' ∧ (((filesH D).1 = [] ∧ vd = 3) ∨ ((filesH D).1 ≠ [] ∧ vd = 1 ∧ xs = (filesH D).1.take 64 ∧ Txts w' vn (filesH D).2))
theorem presI4 : (prog.info? 183).map (·.size) = some 4 := by kernel_rfl
theorem bld_pres3 (A : Option Addr) (n c : Nat) (vn : Value) (hvn : ∃ B m d, vn = .slice B m d) (W : World) : (Instr.build 183 #[(0, .int .i64 1), (1, .slice A n c), (2, vn)]).run prog W = .ok (.agg [Value.int .i64 1, .slice A n c, vn, .int .i64 0].toArray) W := by
 obtain ⟨B, m, d, rfl⟩ := hvn
 kernel_rfl
set_option maxHeartbeats 4000000 in
theorem hfiles_any {w0 w : World} {b g gl n : Nat} {D : HsD} {c : Hc} (h : HsAt w0 w b g gl D c n) (hp : HsP D) : Calls prog 151 #[.pointer (some ⟨g, 0, none⟩)] w (FlRet D w) := by
 obtain ⟨T, hk, hr⟩ := h.k
 obtain ⟨Ah, ch, hvh⟩ := h.hs.form
 obtain ⟨An, cn, hnv, hNR⟩ := h.nm.form
 have Z0 := Blk.new w 183 [.int .i64 0, nilS, nilS, .int .i64 0]
 have HZ : Below w.heap.size w (w.alloc (.cells #[.int .i64 0, .slice none 0 0, .slice none 0 0, .int .i64 0] 183)) := (Below.refl _ _).alloc (Nat.le_refl _) _
 have FF := Hh (fun fam V (hV : Below w.heap.size w V) => hfind_any w0 Ah ch D.hs An cn D.nm fam V (by have := (LOwn.below (R' := HstO w0 V) h.hs hV (fun _ _ x => x.below hV)); rw [hvh] at this; exact this.lin (fun _ _ x => HstO.len x)) (below_then h.ba h.ba.size hV) (hNR.below hV) hp.hs hp.hl)
 have d15 : (w.alloc (.cells #[.int .i64 0, .slice none 0 0, .slice none 0 0, .int .i64 0] 183)).cell? ⟨g, 15, none⟩ = some (.int .i64 D.fam) := (HZ.cell (p := ⟨g, 15, none⟩) hk.1.lt).trans (by rw [← h.eq.2.1]; exact hk.ci 5 rfl)
 have d10 : w.cell? ⟨g, 10, none⟩ = some (.slice Ah D.hs.length ch) := by rw [← hvh]; exact hk.ci 0 rfl
 have d13 : w.cell? ⟨g, 13, none⟩ = some (.slice An D.nm.length cn) := by rw [← hnv]; exact hk.ci 3 rfl
 have hlt := hk.1.lt
 have LH : Hid (∀ V, Below w.heap.size w V → (Instr.loadAt 38 (.pointer (some ⟨g, 10, none⟩))).run prog V = .ok (.slice Ah D.hs.length ch) V) := Hh (fun V hV => run_load1 underlying38 rfl ((hV.cell (p := ⟨g, 10, none⟩) hlt).trans d10))
 have LN : Hid (∀ V, Below w.heap.size w V → (Instr.loadAt 81 (.pointer (some ⟨g, 13, none⟩))).run prog V = .ok (.slice An D.nm.length cn) V) := Hh (fun V hV => run_load1 underlying81 rfl ((hV.cell (p := ⟨g, 13, none⟩) hlt).trans d13))
 obtain ⟨F, hF⟩ : ∃ F, Hid (filesH D = F) := ⟨_, Hh rfl⟩
 have HF2 : Hid (findP D.hs D.nm (famH D.fam) = F) := Hh hF.out
 unfold FlRet
 rw [hF.out]
 have FF2 := Hh (FF.out (famH D.fam))
 rw [HF2.out] at FF2
 unfold HfRet at FF2
 have hdh : D.hs.length ≤ 1000 := hp.hl
 have FT := Hh (find_len D.nm (famH D.fam) D.hs)
 rw [HF2.out] at FT
 have hFl : F.1.length ≤ 1000 := Nat.le_trans FT.out hdh
 have HFM : Hid (famH D.fam = if D.fam = 4 ∨ D.fam = 6 then D.fam else 0) := Hh rfl
 clear h hp hk hr hvh hnv hNR FF d10 d13 hF HF2 FT hdh
 obtain ⟨fm, hfm⟩ : ∃ fm, famH D.fam = fm := ⟨_, rfl⟩
 rw [hfm] at FF2 HFM
 clear hfm
 generalize D.fam = f0 at *
 generalize D.hs.length = nh at *
 generalize D.nm.length = nn at *
 have hcase : (f0 = 4 ∧ fm = 4) ∨ (f0 = 6 ∧ fm = 6) ∨ ((f0 != 4) = true ∧ (f0 != 6) = true ∧ fm = 0) := by
  by_cases h4 : f0 = 4
  ·
   exact .inl ⟨h4, by rw [HFM.out, if_pos (.inl h4)]; exact h4⟩
  by_cases h6 : f0 = 6
  ·
   exact .inr (.inl ⟨h6, by rw [HFM.out, if_pos (.inr h6)]; exact h6⟩)
  ·
   exact .inr (.inr ⟨by simpa using h4, by simpa using h6, by rw [HFM.out, if_neg (by omega)]⟩)
 clear HFM
 obtain ⟨W, hW⟩ : ∃ W, Hid (w.alloc (.cells #[.int .i64 0, .slice none 0 0, .slice none 0 0, .int .i64 0] 183) = W) := ⟨_, Hh rfl⟩
 rw [show (w.alloc (.cells [Value.int .i64 0, nilS, nilS, .int .i64 0].toArray 183)) = W from hW.out] at Z0
 have HZ1 := Hh HZ
 rw [hW.out] at HZ1
 rcases hcase with ⟨rfl, rfl⟩ | ⟨rfl, rfl⟩ | ⟨q1, q2, rfl⟩
 all_goals
  go_enter func151, ntmps151
  go_wp2_with fail
  rw [hW.out]
  refine wp_region_held_drew (S := fun V => Below w.heap.size w V) (by kernel_rfl) HZ1.out.drew (fun hS => ?_)
  refine held_seq hS 10 [0,1,2,3,4,5,6,7,8,9] rfl (by kernel_rfl) (fun _ _ _ _ _ h => h) rfl rfl ?_
  (refine ⟨_, (.pointer (some ⟨g, 0, none⟩)), rfl, .inl ⟨rfl, fun V hV => rfl⟩, ?_⟩; simp only [Act.put, lsA, lsB, lsC])
  (refine ⟨_, (.pointer (some ⟨g, 0, none⟩)), rfl, .inl ⟨rfl, fun V hV => rfl⟩, ?_⟩; simp only [Act.put, lsA, lsB, lsC])
  (refine ⟨_, (.pointer (some ⟨g, 0, none⟩)), rfl, .inl ⟨rfl, fun V hV => rfl⟩, ?_⟩; simp only [Act.put, lsA, lsB, lsC])
  (refine ⟨_, (.pointer (some ⟨g, 10, none⟩)), rfl, .inl ⟨rfl, fun V hV => rfl⟩, ?_⟩; simp only [Act.put, lsA, lsB, lsC])
  (refine ⟨_, _, rfl, .inl ⟨rfl, fun V hV => (exec_ld 38 (.tmp 20) ⟨g, 10, none⟩ rfl rfl (LH.out V hV))⟩, ?_⟩; simp only [Act.put, lsA, lsB, lsC])
  (refine ⟨_, (.pointer (some ⟨g, 0, none⟩)), rfl, .inl ⟨rfl, fun V hV => rfl⟩, ?_⟩; simp only [Act.put, lsA, lsB, lsC])
  (refine ⟨_, (.pointer (some ⟨g, 0, none⟩)), rfl, .inl ⟨rfl, fun V hV => rfl⟩, ?_⟩; simp only [Act.put, lsA, lsB, lsC])
  (refine ⟨_, (.pointer (some ⟨g, 13, none⟩)), rfl, .inl ⟨rfl, fun V hV => rfl⟩, ?_⟩; simp only [Act.put, lsA, lsB, lsC])
  (refine ⟨_, _, rfl, .inl ⟨rfl, fun V hV => (exec_ld 81 (.tmp 24) ⟨g, 13, none⟩ rfl rfl (LN.out V hV))⟩, ?_⟩; simp only [Act.put, lsA, lsB, lsC])
  (refine ⟨_, (.int .i64 _), rfl, .inl ⟨rfl, fun V hV => rfl⟩, ?_⟩; simp only [Act.put, lsA, lsB, lsC])
  simp only [SeqC]
  refine held_call 10 (some 27) 202 _ (by kernel_rfl) rfl rfl (by kernel_rfl) (by go_simp) (FF2.out _ hS) ?_
  rintro _ w2 ⟨A, cc, vn, rfl, hO, hT, b2⟩
  have hS2 := below_then hS hS.size b2
  have HO := Hh hO
  have HT := Hh hT
  have Z2 := (Z0.below (below_then ((Below.refl _ _).drew) (Nat.le_refl _) b2) Z0.lt)
  obtain ⟨An2, cn2, hvn, -, -⟩ := hT.form
  subst hvn
  have hkc := hO.cap.1
  clear hO hT
  obtain ⟨m2, hm2⟩ : ∃ m2, F.2.length = m2 := ⟨_, rfl⟩
  rw [hm2] at HT ⊢
  have RB := Hh (fun n V => bld_pres3 A n cc (.slice An2 m2 cn2) ⟨_, _, _, rfl⟩ V)
  clear hm2
  refine ⟨_, rfl, hS2, ?_⟩
  clear hS b2
  have hS := hS2
  clear hS2
  obtain ⟨k, hkk⟩ : ∃ k, Hid (F.1.length = k) := ⟨_, Hh rfl⟩
  rw [hkk.out] at hFl HO hkc ⊢
  simp only [Act.put, lsA, lsB, lsC]
  refine held_seq hS 5 [11, 12, 13, 14, 15] rfl (by kernel_rfl) (fun _ _ _ _ _ h => h) rfl rfl ?_
  (refine ⟨_, (.tuple #[.slice A k cc, .slice An2 m2 cn2]), rfl, .inl ⟨rfl, fun V hV => rfl⟩, ?_⟩; simp only [Act.put, lsA, lsB, lsC])
  (refine ⟨_, (.slice A k cc), rfl, .inl ⟨rfl, fun V hV => rfl⟩, ?_⟩; simp only [Act.put, lsA, lsB, lsC])
  (refine ⟨_, (.slice An2 m2 cn2), rfl, .inl ⟨rfl, fun V hV => rfl⟩, ?_⟩; simp only [Act.put, lsA, lsB, lsC])
  (refine ⟨_, (.slice A k cc), rfl, .inl ⟨rfl, fun V hV => rfl⟩, ?_⟩; simp only [Act.put, lsA, lsB, lsC])
  (refine ⟨_, (.slice An2 m2 cn2), rfl, .inl ⟨rfl, fun V hV => rfl⟩, ?_⟩; simp only [Act.put, lsA, lsB, lsC])
  simp only [SeqC]
  refine wpAnyH_done (by kernel_rfl) ?_ _
  clear LH LN FF2 d15 HZ1 HZ
  by_cases h0 : k = 0
  ·
   subst h0
   have RB3 := Hh (fun V => bld_pres 3 V)
   have HE : Hid (F.1 = []) := Hh (List.length_eq_zero_iff.1 hkk.out)
   clear RB
   go_wp2_with (first
    | (refine at_op (.build 183 #[(0, .const (.int .i64 3))]) rfl ?_; go_must (refine wpList_bld rfl 183 _ rfl #[(0, .int .i64 3)] (by simp [Act.eval, Act.put]) (RB3.out _) ?_))
    | (refine at_op (.store 183 (.tmp 2) (.tmp 33)) rfl ?_; go_must (refine wpList_stB rfl _ _ _ rfl w.heap.size 0 rfl [.int .i64 3, nilS, nilS, .int .i64 0] rfl Z2 (Nat.le_refl 4) presI4 (by simp [Value.oneCell', nilS]) ?_)))
   intro w3 B3 g3 sw
   have B3' : Blk w3 w.heap.size 183 [.int .i64 3, nilS, nilS, .int .i64 0] := by simpa using B3
   have H3 := Hh (below_grown hS g3 hS.size (Nat.le_refl _))
   clear B3 g3 sw hS Z2 Z0 RB3 HO
   go_wp2_with fail
   refine ret_cell rfl w.heap.size rfl B3' _ underlying183 rfl presI4 rfl ?_
   exact ⟨_, _, _, _, _, [], rfl, rfl, rfl, ⟨LOwn.nil _ _ _ _ _, by simp⟩, H3.out, .inl ⟨HE.out, rfl⟩⟩
  ·
   have h0' : ((k : Int) == 0) = false := by simpa using h0
   have HNE : Hid (F.1 ≠ []) := Hh (fun c => h0 (by rw [← hkk.out, c]; rfl))
   clear h0
   by_cases h64 : k ≤ 64
   case pos =>
    have h64' : (k : Int) ≤ 64 := by omega
    have HTK : Hid (F.1.take 64 = F.1) := Hh (List.take_of_length_le (by rw [hkk.out]; exact h64))
    have RB1 := Hh (fun V => RB.out k V)
    clear RB h64
    go_wp2_with (first
     | (refine at_op (.build 183 #[(0, .const (.int .i64 1)), (1, .tmp 38), (2, .tmp 39)]) rfl ?_; go_must (refine wpList_bld rfl 183 _ rfl #[(0, .int .i64 1), (1, .slice A k cc), (2, .slice An2 m2 cn2)] (by simp [Act.eval, Act.put]) (RB1.out _) ?_))
     | (refine at_op (.store 183 (.tmp 2) (.tmp 40)) rfl ?_; go_must (refine wpList_stB rfl _ _ _ rfl w.heap.size 0 rfl [.int .i64 1, .slice A k cc, .slice An2 m2 cn2, .int .i64 0] rfl Z2 (Nat.le_refl 4) presI4 (by simp [Value.oneCell']) ?_)))
    intro w3 B3 g3 sw
    have B3' : Blk w3 w.heap.size 183 [.int .i64 1, .slice A k cc, .slice An2 m2 cn2, .int .i64 0] := by simpa using B3
    have H3 := Hh (below_grown hS g3 hS.size (Nat.le_refl _))
    have O3 := Hh (HO.out.blk g3 Z2 (by decide))
    have T3 := Hh (HT.out.grown g3 Z2 (by decide))
    clear B3 g3 sw hS Z2 Z0 RB1 HO HT
    go_wp2_with fail
    refine ret_cell rfl w.heap.size rfl B3' _ underlying183 rfl presI4 rfl ?_
    exact ⟨_, _, _, _, _, F.1, rfl, rfl, hkk.out.symm, ⟨O3.out, by rw [hkk.out]; omega⟩, H3.out, .inr ⟨HNE.out, rfl, HTK.out.symm, T3.out⟩⟩
   case neg =>
    have h64' : ¬ (k : Int) ≤ 64 := by omega
    have RB1 := Hh (fun V => RB.out 64 V)
    have hc64 : 64 ≤ cc := by omega
    have HO6 := Hh (LOwn.take (fun _ _ h => AdI.len h) HO.out 64 (by rw [hkk.out]; omega))
    have H64 : Hid ((F.1.take 64).length = 64) := Hh (by rw [List.length_take, hkk.out]; omega)
    clear RB h64 HO
    go_wp2_with (first
     | (refine at_op (.build 183 #[(0, .const (.int .i64 1)), (1, .tmp 38), (2, .tmp 39)]) rfl ?_; go_must (refine wpList_bld rfl 183 _ rfl #[(0, .int .i64 1), (1, .slice A 64 cc), (2, .slice An2 m2 cn2)] (by simp [Act.eval, Act.put]) (RB1.out _) ?_))
     | (refine at_op (.store 183 (.tmp 2) (.tmp 40)) rfl ?_; go_must (refine wpList_stB rfl _ _ _ rfl w.heap.size 0 rfl [.int .i64 1, .slice A 64 cc, .slice An2 m2 cn2, .int .i64 0] rfl Z2 (Nat.le_refl 4) presI4 (by simp [Value.oneCell']) ?_)))
    intro w3 B3 g3 sw
    have B3' : Blk w3 w.heap.size 183 [.int .i64 1, .slice A 64 cc, .slice An2 m2 cn2, .int .i64 0] := by simpa using B3
    have H3 := Hh (below_grown hS g3 hS.size (Nat.le_refl _))
    have O3 := Hh (HO6.out.blk g3 Z2 (by decide))
    have T3 := Hh (HT.out.grown g3 Z2 (by decide))
    clear B3 g3 sw hS Z2 Z0 RB1 HO6 HT
    go_wp2_with fail
    refine ret_cell rfl w.heap.size rfl B3' _ underlying183 rfl presI4 rfl ?_
    exact ⟨_, _, _, _, _, F.1.take 64, rfl, rfl, H64.out.symm, ⟨O3.out, by rw [H64.out]; exact Nat.le_refl 64⟩, H3.out, .inr ⟨HNE.out, rfl, rfl, T3.out⟩⟩
def srcS (s : Src) (j : Nat) : Bool := match j with | 0 => s.a | 1 => s.b | 2 => s.c | _ => s.d
def srcAt (l : List Src) (i : Nat) : Src := l.getD i ⟨0, false, false, false, false⟩
def stopS (l : List Src) (p : Nat) (vd : Int) : Bool := decide (l.length ≤ p + 1) || srcS (srcAt l p) (stat (statusOf vd))
theorem srcs_at {w : World} {B : Nat} {A : Option Addr} {c : Nat} {l : List Src} (h : LOwn w B 147 5 SrcI (.slice A l.length c) l) : Srcs w A l.length (fun i => (srcAt l i).kd) (fun i j => srcS (srcAt l i) j) := by
 intro hp
 obtain ⟨g, h1, h2, h3⟩ := h.at_ (fun cs x h => by rw [h]; rfl) hp
 refine ⟨g, 0, h1, h2, fun i hi => ?_⟩
 obtain ⟨cs, hc, he⟩ := h3 i hi
 have e : srcAt l i = l[i] := by unfold srcAt; rw [List.getD_eq_getElem?_getD, List.getElem?_eq_getElem hi]; rfl
 have he2 : cs = srcX l[i] := he
 rw [he2] at hc
 refine ⟨?_, fun j hj => ?_⟩
 ·
  simp only [e]; simpa using hc 0 _ rfl
 ·
  simp only [e]
  have hj4 : j = 0 ∨ j = 1 ∨ j = 2 ∨ j = 3 := by omega
  rcases hj4 with rfl | rfl | rfl | rfl
  ·
   have := hc 1 _ rfl; simpa [Nat.add_assoc, srcS] using this
  ·
   have := hc 2 _ rfl; simpa [Nat.add_assoc, srcS] using this
  ·
   have := hc 3 _ rfl; simpa [Nat.add_assoc, srcS] using this
  ·
   have := hc 4 _ rfl; simpa [Nat.add_assoc, srcS] using this
theorem nextS_any {w : World} {B : Nat} {A : Option Addr} {c : Nat} {l : List Src} (h : LOwn w B 147 5 SrcI (.slice A l.length c) l) (hl : l.length ≤ 1000) (p : Nat) (vd : Int) :
  Calls prog 126 #[.slice A l.length c, .int .i64 p, .int .i64 (statusOf vd)] w (Ret (if stopS l p vd then .tuple #[.int .i64 0, .bool false] else .tuple #[.int .i64 ((p : Int) + 1), .bool true]) w) := by
 have hS := srcs_at h
 unfold stopS
 by_cases h1 : l.length ≤ p + 1
 ·
  rw [decide_eq_true h1, Bool.true_or, if_pos rfl]
  exact next_out A l.length c p _ w (by omega) (.inr (by omega))
 ·
  rw [decide_eq_false h1, Bool.false_or]
  cases h2 : srcS (srcAt l p) (stat (statusOf vd)) with
  | true =>
   rw [if_pos rfl]
   exact next_stops A l.length c _ _ p _ w (by omega) hS (by omega) (by omega) (by rw [Int.toNat_natCast]; exact h2)
  | false =>
   rw [if_neg (by decide)]
   exact next_goes A l.length c _ _ p _ w (by omega) hS (by omega) (by omega) (by rw [Int.toNat_natCast]; exact h2)
def RetQ (Q : Value → World → Prop) (e : Ending) (w' : World) : Prop := ∃ v, e = .returned v ∧ Q v w'
theorem asked_last {w : World} {g n : Nat} {A : Option Addr} {c : Nat} (h : w.ownsRow g 3 1 (.slice A (n + 1) c) (n + 1) (i64s (seqI (n + 1)))) : ∃ bA, A = some ⟨bA, 0, none⟩ ∧ bA < w.heap.size ∧ w.cell? ⟨bA, n, none⟩ = some (.int .i64 (n : Int)) := by
 obtain ⟨bA, M, rfl, hM, hT, _⟩ := own_range h (by omega) (by simp [i64s, seqI_len])
 refine ⟨bA, rfl, hM.lt, hM.cell_ _ ?_⟩
 have : (M.take ((n + 1) * 1))[n]? = some (.int .i64 (n : Int)) := by
  rw [hT]
  simp [i64s, seqI_succ, seqI_len]
 rwa [List.getElem?_take_of_lt (by omega)] at this
theorem boolI1 : (prog.info? 4).map (·.size) = some 1 := by kernel_rfl
section
variable {w0 w : World} {b g gl n : Nat} {D : HsD} {c : Hc}
set_option maxHeartbeats 2000000 in
theorem hbehind_goes (h : HsAt w0 w b g gl D c (n + 1)) (hp : HsP D) (vd : Int) (r1 r2 : Value) (r3 : Int) (hr1 : ∃ xs : List Adr, AdsB w r1 xs) (hnl : n < D.ss.length) (hs : stopS D.ss n vd = false) (Q : Value → World → Prop)
  (AK : ∀ W, Below w.heap.size w W → Calls prog 97 #[.pointer (some ⟨g, 0, none⟩), .int .i64 ((n : Int) + 1)] W (RetQ Q)) :
  Calls prog 150 #[.pointer (some ⟨g, 0, none⟩), .agg [.int .i64 vd, r1, r2, .int .i64 r3].toArray] w (RetQ Q) := by
 have HAK := Hh AK
 clear AK
 have Z0 := Blk.new w 183 [.int .i64 vd, r1, r2, .int .i64 r3]
 have HZ : Below w.heap.size w (w.alloc (.cells [.int .i64 vd, r1, r2, .int .i64 r3].toArray 183)) := (Below.refl _ _).alloc (Nat.le_refl _) _
 obtain ⟨xs, hxs⟩ := hr1
 have hr1 : r1.oneCell' = true := by obtain ⟨Ax, cx, hr1e⟩ := hxs.1.form; rw [hr1e]; rfl
 obtain ⟨T, hk, hr⟩ := h.k
 obtain ⟨As, cs, hvs⟩ := h.ss.form
 obtain ⟨Aa, ca, hva⟩ := own_form h.as_
 have hA := h.as_
 rw [hva] at hA
 obtain ⟨bA, rfl, hbA, cA⟩ := asked_last hA
 have hsl := hp.sl
 have hn8 : (n : Int) ≤ 8 := by omega
 have HSS := Hh h.ss
 rw [hvs] at HSS
 have NX := Hh (fun W (hW : Below w.heap.size w W) => by
  have := nextS_any (LOwn.below (R' := SrcI) HSS.out hW (fun _ _ x => x)) (by omega) n vd
  rw [hs, (if_neg (by decide))] at this
  exact this)
 have d11 := hk.ci 1 (u := .slice As D.ss.length cs) (by rw [← hvs]; rfl)
 have d18 := hk.ci 8 (u := .slice (some ⟨bA, 0, none⟩) (n + 1) ca) (by rw [← hva]; rfl)
 have e11 := (HZ.cell (p := ⟨g, 11, none⟩) hk.1.lt).trans d11
 have e18 := (HZ.cell (p := ⟨g, 18, none⟩) hk.1.lt).trans d18
 have eA := (HZ.cell (p := ⟨bA, n, none⟩) hbA).trans cA
 have z0 := Z0.cell_ 0 rfl
 clear d11 d18 cA
 have ST := Hh (fun W => status_any vd W)
 have HXS := Hh hxs
 have HAT := Lib.hid h
 have HZ1 := Hh HZ
 have hg1 : g ≠ w.heap.size := Nat.ne_of_lt hk.1.lt
 have HKK := Hh hk
 obtain ⟨W, hW⟩ : ∃ W, Hid (w.alloc (.cells [Value.int .i64 vd, r1, r2, .int .i64 r3].toArray 183) = W) := ⟨_, Hh rfl⟩
 rw [hW.out] at Z0 HZ1 e11 e18 eA z0
 clear hxs h hk hr hvs hva hA HSS HZ
 go_enter func150, ntmps150
 go_wp2_with fail
 rw [hW.out]
 go_quiet ((first | (go_at_call 127; exact Ret.quiet (ST.out _)) | (go_at_call 126; exact Ret.quiet (NX.out _ (below_drewN HZ1.out _)))))
 have AK1 := Hh (HAK.out _ (below_drewN HZ1.out nq))
 unfold RetQ at AK1
 clear hW z0 eA e18 e11 Z0 HZ1 NX ST HKK HAT HAK HXS
 go_wp2_with fail
 refine AK1.out.mono ?_
 rintro _ w2 ⟨v, rfl, hq⟩
 have HQ := Hh hq
 clear AK1 hq
 go_wp2_with fail
 go_ret
 exact ⟨v, rfl, HQ.out⟩
end
structure HsN (D : HsD) (c : Hc) (n : Nat) : Prop where
 an : n ≤ D.ss.length
 bg : c.bg ≤ 7 * (n - 1) + c.next
 nx : c.next ≤ D.cd.length
structure HsS (w0 w : World) (b g gl : Nat) (D : HsD) (c : Hc) (n : Nat) (L : Lt) (E TK : Nat) : Prop where
 at_ : HsAt w0 w b g gl D c n
 lt : LotAt w gl L
 nm : HsN D c n
 us : L.us ≤ 4 * (E + c.bg)
 ds : L.ds.length ≤ 17592186044416
 tk : TK ≤ 2 * ticksR D.r * c.bg
 sn : c.sent ≤ 2 * mostR D.r * c.bg
 pp : c.pp = none
 dn : c.dn = false
structure HsW (w0 w : World) (b g gl : Nat) (D : HsD) (c : Hc) (n : Nat) (L : Lt) (E TK H : Nat) (dp : Bool) : Prop where
 at_ : HsAt w0 w b g gl D c n
 lt : LotAt w gl L
 nm : HsN D c n
 ds : L.ds.length ≤ 17592186044416
 sn : c.sent + 2 * mostR D.r ≤ 2 * mostR D.r * c.bg
 dn : c.dn = false
 pr : ∃ gp X p tk k, c.pp = some gp ∧ PrAt w0 w b gp gl X p ∧ PI p L tk k H ∧ goP p ∧ doneP p = dp ∧ p.nm.length ≤ 100000 ∧ p.tys = tysF D.fam ∧ p.r = heldR D.r ∧ TK + 2 * ticksR D.r ≤ 2 * ticksR D.r * c.bg + tk ∧ tk ≤ 2 * ticksR D.r ∧ k + 1 ≤ E + c.bg
theorem held_most (r : Rs) : mostR (heldR r) = mostR r := by unfold mostR; rw [tries_len, tries_len, heldR_twice]
theorem tysF_ok (f : Int) : (∀ t ∈ tysF f, t = 1 ∨ t = 28) ∧ 0 < (tysF f).length := by
 unfold tysF
 refine ⟨fun t ht => ?_, ?_⟩
 ·
  split at ht <;> split at ht <;> simp at ht <;> omega
 ·
  by_cases h6 : f = 6
  ·
   subst h6; decide
  ·
   rw [if_neg h6]; simp
theorem HsN.b56 {D : HsD} {c : Hc} {n : Nat} (h : HsN D c n) (hp : HsP D) : c.bg ≤ 63 := by
 have h1 := h.an
 have h2 := h.bg
 have h3 := h.nx
 have h4 := hp.sl
 have h5 := hp.cl
 omega
theorem each_one {α : Type} {R : List Value → α → Prop} (hk : ∀ cs x, R cs x → ∀ u ∈ cs, u.oneCell' = true) : ∀ {css : List (List Value)} {l : List α}, Each R css l → ∀ u ∈ css.flatten, u.oneCell' = true
 | [], [], _ => by simp
 | cs :: css, x :: l, h => fun u hu => by
  rcases List.mem_append.1 hu with hu | hu
  ·
   exact hk _ _ h.1 u hu
  ·
   exact each_one hk h.2 u hu
theorem run_appLL {P : Program} {α : Type} {R : List Value → α → Prop} (w : World) (t ty : TypeId) (e : TypeId) (z : Value) (size bytes : Nat) (ht : P.underlying t = some (.slice e)) (hi : (P.info? e).map (fun i => (i.zero, i.size, i.bytes)) = some (some z, size, bytes)) (hzs : z.cells.size = size) (hsz : 0 < size)
  (B B2 : Nat) (v v2 : Value) (l l2 : List α) (h : LOwn w B e size R v l) (h2 : LOwn w B2 e size R v2 l2) (hB : B ≤ w.heap.size) (hk : ∀ cs x, R cs x → cs.length = size) (ho : ∀ cs x, R cs x → ∀ u ∈ cs, u.oneCell' = true) (h63 : l.length + l2.length ≤ maxLen) (hbytes : (l.length + l2.length) * bytes ≤ 140737488355328) :
  ∃ v' w', (Builtin.append_ #[t, t] ty #[v, v2]).run P w = .ok v' w' ∧ LOwn w' B e size R v' (l ++ l2) ∧ w.grownBy w' v.ownBlock := by
 obtain ⟨css, hown, hE⟩ := h
 obtain ⟨css2, hown2, hE2⟩ := h2
 obtain ⟨A2, c2, rfl⟩ := own_form hown2
 have hl2 := each_len hk hE2
 obtain ⟨v', w', hr', h3, h4⟩ := run_appG w t ty e z size bytes ht hi hzs hsz B v l.length css.flatten hown hB A2 l2.length c2 css2.flatten (fun hp => by
  obtain ⟨g, L, hA, hb, hL, _⟩ := own_range hown2 hp hl2
  refine ⟨g, 0, hA, fun j v hv => ?_⟩
  rw [Nat.zero_add]
  refine hb.cell_ j ?_
  rw [← hL] at hv
  rw [List.getElem?_take] at hv
  split at hv
  ·
   exact hv
  ·
   cases hv) hl2 (each_one ho hE2) h63 hbytes
 refine ⟨v', w', hr', ⟨css ++ css2, ?_, each_app hE hE2⟩, h4⟩
 rw [List.flatten_append, List.length_append]
 exact h3
theorem Fr.new {S : Nat → Prop} {a b c : World} {g : Nat} (h : Fr S a b) (k : b.grownBy c (some g)) (hg : a.heap.size ≤ g) : Fr S a c :=
 ⟨k.os.trans h.os, k.tape.trans h.tape, k.output.trans h.output, Nat.le_trans h.size k.size, fun i hi => by
  rcases h.block i hi with e | e
  ·
   exact .inl ((k.block i (Nat.lt_of_lt_of_le hi h.size) (by simp; omega)).trans e)
  ·
   exact .inr e⟩
theorem TdO.blkT {w w' : World} {g : Nat} {t : TypeId} {cs L : List Value} {m : Td} (h : TdO w cs m) (hg : w.grownBy w' (some g)) (hb : Blk w g t L) (h1 : t ≠ 218) (h2 : t ≠ 96) (h3 : t ≠ 9) : TdO w' cs m := by
 obtain ⟨vn, ds, e, n, m⟩ := h
 exact ⟨vn, ds, e, n.stays (Stays.blk hg hb h3), m.blkT hg hb h1 h2 h3⟩
def LvH (w0 : World) (b g gl : Nat) (D : HsD) (c : Hc) (n : Nat) (L : Lt) (E TK : Nat) (w : World) (e : Ending) (w' : World) : Prop := ∃ vd va vn ttl xs c', e = .returned (.agg [.int .i64 vd, va, vn, .int .i64 ttl].toArray) ∧ 1 ≤ vd ∧ vd ≤ 5 ∧ AdsB w' va xs ∧ vn.oneCell' = true ∧ HsS w0 w' b g gl D c' n L E TK ∧ c'.bg = c.bg ∧ c'.next = c.next ∧ c'.ag = c.ag ∧ c'.nd = c.nd ∧ Below b w w' ∧ KeepO w.heap.size w w'
def LhTy (t : TypeId) : Prop := t = 185 ∨ t = 284
theorem told_i1 : (prog.info? 80).map (·.size) = some 1 := by kernel_rfl
theorem pairp_i1 : (prog.info? 181).map (·.size) = some 1 := by kernel_rfl
section
variable {w0 w : World} {b g gl n : Nat} {D : HsD} {c : Hc}
set_option maxHeartbeats 4000000 in
theorem hleave_any (L : Lt) (E TK H : Nat) (h : HsW w0 w b g gl D c n L E TK H true) (hp : HsP D) (hbw : b ≤ w.heap.size) :
  Calls prog 204 #[.pointer (some ⟨g, 0, none⟩)] w (LvH w0 b g gl D c n L E TK w) := by
 obtain ⟨gp, X, p, tk, k, hpp, hPA, hPI, hgo, hd, hnm, hty, hr, htk, htk2, hk⟩ := h.pr
 have hbl2 : p.bg.length ≤ 2 := Nat.le_trans hPI.bl hPI.tl
 obtain ⟨y1, y2⟩ := tysF_ok D.fam
 have Z0 := Blk.new w 183 [.int .i64 0, nilS, nilS, .int .i64 0]
 have HZ : Below w.heap.size w (w.alloc (.cells #[.int .i64 0, .slice none 0 0, .slice none 0 0, .int .i64 0] 183)) := (Below.refl _ _).alloc (Nat.le_refl _) _
 have PR := Hh (presult_any (hPA.below hbw HZ) hPI (by rw [hty]; exact y1) hnm hd (by rw [hty]; exact y2) (Nat.le_trans hbw HZ.size))
 have PT := Hh (fun V (hV : Below w.heap.size w V) => ptold_any (hPA.below hbw hV) (fun i x hx => (hPI.ea i x hx).q) hPI.bl hbl2)
 have PS := Hh (fun V (hV : Fr (TyS w LhTy b) w V) => psent_any (hPA.frT hV (Nat.le_refl b) hbw (by unfold LhTy; decide) (by unfold LhTy; decide) (by unfold LhTy; decide) (by unfold LhTy; decide)) (fun x hx => by
  obtain ⟨i, hi⟩ := List.getElem?_of_mem hx
  have := (hPI.ea i x hi).s45
  omega) hbl2)
 have hsn2 : sentP p ≤ 2 * mostR D.r := by
  have := hPI.sent
  rw [hr, held_most] at this
  exact Nat.le_trans this (Nat.mul_le_mul_right _ hbl2)
 have hTl : (toldL p.bg).length ≤ 2 := by
  have := toldL_len p.bg p.bg.length
  rw [List.take_length] at this
  omega
 unfold PresRet at PR
 unfold ToldRet at PT
 have hus : L.us ≤ 4 * (E + c.bg) := by have := hPI.us; omega
 have hsn := h.sn
 have hbg := h.nm.b56 hp
 have hsml := (ticks_le D.r).2
 have HFIN : Hid (c.sent + sentP p ≤ 2 * mostR D.r * c.bg ∧ TK ≤ 2 * ticksR D.r * c.bg) := Hh ⟨by omega, by omega⟩
 have hs1 : c.sent ≤ 10000 := by
  have : 2 * mostR D.r * c.bg ≤ 90 * 63 := Nat.mul_le_mul (by omega) hbg
  omega
 have hs2 : sentP p ≤ 90 := by omega
 obtain ⟨T, hK, _⟩ := h.at_.k
 obtain ⟨tl, htl, htll⟩ := h.at_.td
 obtain ⟨At, ct, hvt⟩ := htl.form
 have d23 := hK.ci 13 (u := .pointer (some ⟨gp, 0, none⟩)) (by show some (ptrV c.pp) = _; rw [hpp]; rfl)
 have e23 := (HZ.cell (p := ⟨g, 23, none⟩) hK.1.lt).trans d23
 have HAT := Hh h.at_
 have HLT := Hh h.lt
 have HKK := Hh hK
 have HTL := Hh htl
 have HNM := Hh h.nm
 have HDS := Hh h.ds
 have HDN := Hh h.dn
 have HUS := Hh hus
 rw [hvt] at htl
 have HTV := Hh htl
 have hgl := h.at_.lg
 have hbg' := h.at_.bl
 have hltg := hK.1.lt
 obtain ⟨ns, hns⟩ : ∃ ns, Hid (sentP p = ns) := ⟨_, Hh rfl⟩
 rw [hns.out] at PS hs2 HFIN
 obtain ⟨TT, hTT⟩ : ∃ TT, Hid (toldL p.bg = TT) := ⟨_, Hh rfl⟩
 rw [hTT.out] at PT hTl
 have HVT := Hh hvt
 have HPP := Hh hpp
 clear h hp hPA hPI hgo hd hnm hty hr htk htk2 hk y1 y2 hK htl d23 hus hsn hsml hbl2 hsn2 hvt hns hTT hpp
 go_enter func204, ntmps204
 go_wp2_with fail
 refine PR.out.mono ?_
 rintro _ w1 ⟨vd, va, vn, ttl, xs, rfl, hvn, hOx, hRP, b1⟩
 obtain ⟨Ax, cx, hva⟩ := hOx.form
 subst hva
 have Z1 := Z0.below b1 Z0.lt
 have H1 := below_then HZ HZ.size b1
 have hv15 : 1 ≤ vd ∧ vd ≤ 5 := ⟨hRP.1, hRP.2.1⟩
 have hone : ∀ u ∈ [Value.int .i64 vd, .slice Ax xs.length cx, vn, .int .i64 ttl], u.oneCell' = true := by
  intro u hu
  simp only [List.mem_cons, List.not_mem_nil, or_false] at hu
  rcases hu with rfl | rfl | rfl | rfl
  ·
   rfl
  ·
   rfl
  ·
   exact hvn
  ·
   rfl
 have HOX := Hh hOx
 have hxl : xs.length ≤ 64 := hRP.2.2.2.2.1
 clear PR b1 hRP hOx Z0 HZ e23
 have Y1 := Blk.new w1 183 [.int .i64 0, nilS, nilS, .int .i64 0]
 have k1 : Below w1.heap.size w1 (w1.alloc (.cells #[.int .i64 0, .slice none 0 0, .slice none 0 0, .int .i64 0] 183)) := (Below.refl _ _).alloc (Nat.le_refl _) _
 go_wp2_with (refine at_op (.store 183 (.tmp 3) (.tmp 8)) rfl ?_; go_must (refine wpList_stB rfl _ _ _ rfl w1.heap.size 0 rfl [.int .i64 vd, .slice Ax xs.length cx, vn, .int .i64 ttl] rfl Y1 (Nat.le_refl 4) presI4 hone ?_))
 intro w2 B2 g2 sw
 clear sw
 have B2' : Blk w2 w1.heap.size 183 [.int .i64 vd, .slice Ax xs.length cx, vn, .int .i64 ttl] := by simpa using B2
 have k2 := below_grown k1 g2 k1.size (Nat.le_refl _)
 have H2 := below_then H1 H1.size k2
 have O2 := Hh (LOwn.below (R' := AdI) HOX.out k2 (fun _ _ x => x))
 have Z2 := Z1.below k2 Z1.lt
 obtain ⟨gr, hgr⟩ : ∃ gr, Hid (w1.heap.size = gr) := ⟨_, Hh rfl⟩
 rw [hgr.out] at B2' ⊢
 have hgr1 : w.heap.size < gr := by rw [← hgr.out]; exact Z1.lt
 have hgg : g ≠ gr := by omega
 clear B2 g2 k1 k2 Y1 Z1 H1 HOX
 have K2 := Hh (HKK.out.below H2)
 have LTD : Hid (∀ V, Below w2.heap.size w2 V → (Instr.loadAt 80 (.pointer (some ⟨g, 24, none⟩))).run prog V = .ok (.slice At tl.length ct) V) := Hh (fun V hV => run_load1 underlying80 rfl ((hV.cell (p := ⟨g, 24, none⟩) K2.out.1.lt).trans (K2.out.ci 14 (by show some c.tv = _; rw [HVT.out]))))
 have LPP : Hid (∀ V, Below w2.heap.size w2 V → (Instr.loadAt 181 (.pointer (some ⟨g, 23, none⟩))).run prog V = .ok (.pointer (some ⟨gp, 0, none⟩)) V) := Hh (fun V hV => run_load1 underlying181 rfl ((hV.cell (p := ⟨g, 23, none⟩) K2.out.1.lt).trans (K2.out.ci 13 (by show some (ptrV c.pp) = _; rw [HPP.out]; rfl))))
 go_upto_region 3 with fail
 go_cut [] (fun wx => ∃ (vt : Value) (TL : List Td), Hid (HK wx g T { c with tv := vt }) ∧ Hid (TdsO wx g vt TL) ∧ TL.length ≤ tl.length + 2 ∧ Hid (AdsO wx 0 (.slice Ax xs.length cx) xs) ∧ Blk wx gr 183 [.int .i64 vd, .slice Ax xs.length cx, vn, .int .i64 ttl] ∧ Blk wx w.heap.size 183 [.int .i64 0, nilS, nilS, .int .i64 0] ∧ Hid (Fr (TyS w LhTy b) w wx))
 case first =>
  have d23 := K2.out.ci 13 (u := .pointer (some ⟨gp, 0, none⟩)) (by show some (ptrV c.pp) = _; rw [HPP.out]; rfl)
  refine wp_region_held_drew (S := fun V => V.cell? ⟨g, 23, none⟩ = some (.pointer (some ⟨gp, 0, none⟩))) (by kernel_rfl) d23 (fun hS => ?_)
  refine held_seq hS 8 [0, 1, 2, 3, 5, 6, 7, 8] rfl (by kernel_rfl) (fun _ _ _ _ _ h => h) rfl rfl ?_
  (refine ⟨_, (.pointer (some ⟨g, 0, none⟩)), rfl, .inl ⟨rfl, fun V hV => rfl⟩, ?_⟩; simp only [Act.put, lsA, lsB, lsC])
  (refine ⟨_, (.pointer (some ⟨g, 0, none⟩)), rfl, .inl ⟨rfl, fun V hV => rfl⟩, ?_⟩; simp only [Act.put, lsA, lsB, lsC])
  (refine ⟨_, (.pointer (some ⟨g, 0, none⟩)), rfl, .inl ⟨rfl, fun V hV => rfl⟩, ?_⟩; simp only [Act.put, lsA, lsB, lsC])
  (refine ⟨_, (.pointer (some ⟨g, 24, none⟩)), rfl, .inl ⟨rfl, fun V hV => rfl⟩, ?_⟩; simp only [Act.put, lsA, lsB, lsC])
  (refine ⟨_, (.pointer (some ⟨g, 0, none⟩)), rfl, .inl ⟨rfl, fun V hV => rfl⟩, ?_⟩; simp only [Act.put, lsA, lsB, lsC])
  (refine ⟨_, (.pointer (some ⟨g, 0, none⟩)), rfl, .inl ⟨rfl, fun V hV => rfl⟩, ?_⟩; simp only [Act.put, lsA, lsB, lsC])
  (refine ⟨_, (.pointer (some ⟨g, 23, none⟩)), rfl, .inl ⟨rfl, fun V hV => rfl⟩, ?_⟩; simp only [Act.put, lsA, lsB, lsC])
  (refine ⟨_, _, rfl, .inl ⟨rfl, fun V hV => (exec_ld 181 (.tmp 16) ⟨g, 23, none⟩ rfl rfl (run_load1 underlying181 rfl hV))⟩, ?_⟩; simp only [Act.put, lsA, lsB, lsC])
  simp only [SeqC]
  refine ord_two 4 9 (by kernel_rfl) ?_ ?_
  ·
   refine opw_ld 4 (some 13) 80 (.tmp 12) ⟨g, 24, none⟩ rfl rfl rfl rfl (by kernel_rfl) (LTD.out _ (Below.refl _ _).drew) ?_
   refine ⟨hS, ?_⟩
   simp only [Act.put, lsA, lsB, lsC]
   refine ord_one 9 (by kernel_rfl) ?_
   refine opw_call 9 (some 18) 241 #[.pointer (some ⟨gp, 0, none⟩)] rfl rfl (by kernel_rfl) (by go_simp) (PT.out _ H2.drew) ?_
   rintro _ w4 ⟨v4, rfl, hO4, b4⟩
   have b24 := below_then ((Below.refl w2.heap.size w2).drew) (Nat.le_refl _) b4
   have hS4 : w4.cell? ⟨g, 23, none⟩ = some (.pointer (some ⟨gp, 0, none⟩)) := (b24.cell (p := ⟨g, 23, none⟩) K2.out.1.lt).trans d23
   refine ⟨_, rfl, hS4, ?_⟩
   simp only [Act.put, lsA, lsB, lsC]
   have T4 := TdsO.below HTV.out (below_then H2 H2.size b24)
   have K4 := K2.out.below b24
   have B4 := B2'.below b24 B2'.lt
   have Z4 := Z2.below b24 Z2.lt
   have O4 := LOwn.below (R' := AdI) O2.out b24 (fun _ _ x => x)
   obtain ⟨v5, w5, hr5, O5, g5⟩ := run_appLL (P := prog) w4 80 80 284 _ 18 184 underlying80 tdInfo3 (by kernel_rfl) (by decide) g _ _ v4 tl TT T4 hO4 (Nat.le_of_lt K4.1.lt) (fun _ _ x => x.len) (fun _ _ x => x.one) (by simp only [maxLen]; omega) (by omega)
   have F5 : Fr (TyS w4 LhTy b) w4 w5 := (LOwn.appFrT (p := LhTy) T4 g5 (by unfold StTy; decide) (.inr rfl)).mono (fun i ⟨x, y⟩ => ⟨by omega, y⟩)
   have T5 := O5.stays (R' := TdO w5) (fun _ x => x) (fun _ _ x => x.fr F5)
   have K5 : HK w5 g T c := ⟨LOwn.keep T4 K4.1 (by decide) g5, K4.2⟩
   have B5 := LOwn.keep T4 B4 (by decide) g5
   have Z5 := LOwn.keep T4 Z4 (by decide) g5
   have hS5 : w5.cell? ⟨g, 23, none⟩ = some (.pointer (some ⟨gp, 0, none⟩)) := K5.ci 13 (by show some (ptrV c.pp) = _; rw [HPP.out]; rfl)
   obtain ⟨A5, c5, hv5⟩ := T5.form
   have hl5 : (tl ++ TT).length ≤ tl.length + 2 := by rw [List.length_append]; omega
   refine ord_one 10 (by kernel_rfl) ?_
   refine opw_run 10 (some 19) rfl rfl (by kernel_rfl) (exec_apG (.tmp 13) (.tmp 18) rfl rfl rfl rfl hr5) ?_
   refine ⟨hS5, ?_⟩
   clear hS
   have hS := hS5
   simp only [Act.put, lsA, lsB, lsC]
   refine held_seq hS 2 [11, 12] rfl (by kernel_rfl) (fun _ _ _ _ _ h => h) rfl rfl ?_
   (refine ⟨_, (.pointer (some ⟨g, 0, none⟩)), rfl, .inl ⟨rfl, fun V hV => rfl⟩, ?_⟩; simp only [Act.put, lsA, lsB, lsC])
   (refine ⟨_, (.pointer (some ⟨g, 24, none⟩)), rfl, .inl ⟨rfl, fun V hV => rfl⟩, ?_⟩; simp only [Act.put, lsA, lsB, lsC])
   simp only [SeqC]
   have hv51 : v5.oneCell' = true ∧ v5.cells = #[v5] := by rw [hv5]; exact ⟨rfl, rfl⟩
   refine ord_one 13 (by kernel_rfl) ?_
   refine opw_stC 13 80 (.tmp 21) (.tmp 19) rfl rfl rfl (by kernel_rfl) g 24 rfl v5 rfl K5.1 (by rw [K5.len]; decide) told_i1 hv51.1 hv51.2 ?_
   intro w7 B7 g7 s7
   have K7 : HK w7 g T { c with tv := v5 } := K5.put 14 B7 rfl
   have k7 : Fr (TyS w5 LhTy b) w5 w7 := Fr.grown g7 K5.1 (by unfold StTy; decide) ⟨by omega, _, _, K5.1, .inl rfl⟩
   have F7 := Hh (Fr.transT (Fr.below (below_then H2 H2.size b24)) (Fr.transT F5 k7))
   have T7 := Hh (T5.stays (R' := TdO w7) (fun _ x => own_blk x g7 K5.1 (by decide)) (fun _ _ x => x.fr k7))
   have O7 := Hh (((LOwn.stays (R' := AdI) O4 (fun _ x => F5.own x (by unfold StTy; decide)) (fun _ _ x => x))).blk g7 K5.1 (by decide))
   have B7' := B5.grown g7 (by simpa using hgg.symm)
   have Z7' := Z5.grown g7 (by simp; omega)
   have HK7 := Hh K7
   refine ⟨K7.ci 13 (by show some (ptrV c.pp) = _; rw [HPP.out]; rfl), ?_⟩
   simp only [Act.put, lsA, lsB, lsC]
   refine wpAnyH_done (by kernel_rfl) ?_ _
   clear hS hS5 T4 K4 B4 Z4 O4 O5 g5 F5 T5 K5 B5 Z5 hv5 hv51 K7 k7 B7 g7 b24 hO4 b4 hS4 hr5
   go_wp2_with fail
   go_meet
   case rel => exact ⟨v5, tl ++ TT, HK7, T7, hl5, O7, B7', Z7', F7⟩
  ·
   refine opw_call 9 (some 18) 241 #[.pointer (some ⟨gp, 0, none⟩)] rfl rfl (by kernel_rfl) (by go_simp) (PT.out _ H2.drew) ?_
   rintro _ w4 ⟨v4, rfl, hO4, b4⟩
   have b24 := below_then ((Below.refl w2.heap.size w2).drew) (Nat.le_refl _) b4
   have hS4 : w4.cell? ⟨g, 23, none⟩ = some (.pointer (some ⟨gp, 0, none⟩)) := (b24.cell (p := ⟨g, 23, none⟩) K2.out.1.lt).trans d23
   refine ⟨_, rfl, hS4, ?_⟩
   simp only [Act.put, lsA, lsB, lsC]
   refine ord_one 4 (by kernel_rfl) ?_
   refine opw_ld 4 (some 13) 80 (.tmp 12) ⟨g, 24, none⟩ rfl rfl rfl rfl (by kernel_rfl) (LTD.out _ b24) ?_
   refine ⟨hS4, ?_⟩
   simp only [Act.put, lsA, lsB, lsC]
   have T4 := TdsO.below HTV.out (below_then H2 H2.size b24)
   have K4 := K2.out.below b24
   have B4 := B2'.below b24 B2'.lt
   have Z4 := Z2.below b24 Z2.lt
   have O4 := LOwn.below (R' := AdI) O2.out b24 (fun _ _ x => x)
   obtain ⟨v5, w5, hr5, O5, g5⟩ := run_appLL (P := prog) w4 80 80 284 _ 18 184 underlying80 tdInfo3 (by kernel_rfl) (by decide) g _ _ v4 tl TT T4 hO4 (Nat.le_of_lt K4.1.lt) (fun _ _ x => x.len) (fun _ _ x => x.one) (by simp only [maxLen]; omega) (by omega)
   have F5 : Fr (TyS w4 LhTy b) w4 w5 := (LOwn.appFrT (p := LhTy) T4 g5 (by unfold StTy; decide) (.inr rfl)).mono (fun i ⟨x, y⟩ => ⟨by omega, y⟩)
   have T5 := O5.stays (R' := TdO w5) (fun _ x => x) (fun _ _ x => x.fr F5)
   have K5 : HK w5 g T c := ⟨LOwn.keep T4 K4.1 (by decide) g5, K4.2⟩
   have B5 := LOwn.keep T4 B4 (by decide) g5
   have Z5 := LOwn.keep T4 Z4 (by decide) g5
   have hS5 : w5.cell? ⟨g, 23, none⟩ = some (.pointer (some ⟨gp, 0, none⟩)) := K5.ci 13 (by show some (ptrV c.pp) = _; rw [HPP.out]; rfl)
   obtain ⟨A5, c5, hv5⟩ := T5.form
   have hl5 : (tl ++ TT).length ≤ tl.length + 2 := by rw [List.length_append]; omega
   refine ord_one 10 (by kernel_rfl) ?_
   refine opw_run 10 (some 19) rfl rfl (by kernel_rfl) (exec_apG (.tmp 13) (.tmp 18) rfl rfl rfl rfl hr5) ?_
   refine ⟨hS5, ?_⟩
   clear hS
   have hS := hS5
   simp only [Act.put, lsA, lsB, lsC]
   refine held_seq hS 2 [11, 12] rfl (by kernel_rfl) (fun _ _ _ _ _ h => h) rfl rfl ?_
   (refine ⟨_, (.pointer (some ⟨g, 0, none⟩)), rfl, .inl ⟨rfl, fun V hV => rfl⟩, ?_⟩; simp only [Act.put, lsA, lsB, lsC])
   (refine ⟨_, (.pointer (some ⟨g, 24, none⟩)), rfl, .inl ⟨rfl, fun V hV => rfl⟩, ?_⟩; simp only [Act.put, lsA, lsB, lsC])
   simp only [SeqC]
   have hv51 : v5.oneCell' = true ∧ v5.cells = #[v5] := by rw [hv5]; exact ⟨rfl, rfl⟩
   refine ord_one 13 (by kernel_rfl) ?_
   refine opw_stC 13 80 (.tmp 21) (.tmp 19) rfl rfl rfl (by kernel_rfl) g 24 rfl v5 rfl K5.1 (by rw [K5.len]; decide) told_i1 hv51.1 hv51.2 ?_
   intro w7 B7 g7 s7
   have K7 : HK w7 g T { c with tv := v5 } := K5.put 14 B7 rfl
   have k7 : Fr (TyS w5 LhTy b) w5 w7 := Fr.grown g7 K5.1 (by unfold StTy; decide) ⟨by omega, _, _, K5.1, .inl rfl⟩
   have F7 := Hh (Fr.transT (Fr.below (below_then H2 H2.size b24)) (Fr.transT F5 k7))
   have T7 := Hh (T5.stays (R' := TdO w7) (fun _ x => own_blk x g7 K5.1 (by decide)) (fun _ _ x => x.fr k7))
   have O7 := Hh (((LOwn.stays (R' := AdI) O4 (fun _ x => F5.own x (by unfold StTy; decide)) (fun _ _ x => x))).blk g7 K5.1 (by decide))
   have B7' := B5.grown g7 (by simpa using hgg.symm)
   have Z7' := Z5.grown g7 (by simp; omega)
   have HK7 := Hh K7
   refine ⟨K7.ci 13 (by show some (ptrV c.pp) = _; rw [HPP.out]; rfl), ?_⟩
   simp only [Act.put, lsA, lsB, lsC]
   refine wpAnyH_done (by kernel_rfl) ?_ _
   clear hS hS5 T4 K4 B4 Z4 O4 O5 g5 F5 T5 K5 B5 Z5 hv5 hv51 K7 k7 B7 g7 b24 hO4 b4 hS4 hr5
   go_wp2_with fail
   go_meet
   case rel => exact ⟨v5, tl ++ TT, HK7, T7, hl5, O7, B7', Z7', F7⟩
 obtain ⟨vt, TL, HK3, HT3, hTL, HO3, B3, Z3, HF3⟩ := hcut
 obtain ⟨w3, rfl⟩ : ∃ w3, w3 = wc := ⟨_, rfl⟩
 clear K2 O2 B2' Z2 H2 LTD LPP PT
 have d23 := HK3.out.ci 13 (u := .pointer (some ⟨gp, 0, none⟩)) (by show some (ptrV c.pp) = _; rw [HPP.out]; rfl)
 have d25 := HK3.out.ci 15 (u := .int .i64 (c.sent : Int)) rfl
 go_upto_region 4 with fail
 go_cut [] (fun wx => Hid (HK wx g T { c with tv := vt, sent := c.sent + ns }) ∧ Hid (TdsO wx g vt TL) ∧ Hid (AdsO wx 0 (.slice Ax xs.length cx) xs) ∧ Blk wx gr 183 [.int .i64 vd, .slice Ax xs.length cx, vn, .int .i64 ttl] ∧ Blk wx w.heap.size 183 [.int .i64 0, nilS, nilS, .int .i64 0] ∧ Hid (Fr (TyS w LhTy b) w wx))
 case first =>
  have PS1 := Hh (PS.out w3.drew (Fr.transT HF3.out (Fr.below ((Below.refl _ _).drew))))
  refine wp_region_held_drew (S := fun V => V.cell? ⟨g, 23, none⟩ = some (.pointer (some ⟨gp, 0, none⟩))) (by kernel_rfl) d23 (fun hS => ?_)
  refine held_seq hS 7 [0, 1, 2, 4, 5, 6, 7] rfl (by kernel_rfl) (fun _ _ _ _ _ h => h) rfl rfl ?_
  (refine ⟨_, (.pointer (some ⟨g, 0, none⟩)), rfl, .inl ⟨rfl, fun V hV => rfl⟩, ?_⟩; simp only [Act.put, lsA, lsB, lsC])
  (refine ⟨_, (.pointer (some ⟨g, 0, none⟩)), rfl, .inl ⟨rfl, fun V hV => rfl⟩, ?_⟩; simp only [Act.put, lsA, lsB, lsC])
  (refine ⟨_, (.pointer (some ⟨g, 25, none⟩)), rfl, .inl ⟨rfl, fun V hV => rfl⟩, ?_⟩; simp only [Act.put, lsA, lsB, lsC])
  (refine ⟨_, (.pointer (some ⟨g, 0, none⟩)), rfl, .inl ⟨rfl, fun V hV => rfl⟩, ?_⟩; simp only [Act.put, lsA, lsB, lsC])
  (refine ⟨_, (.pointer (some ⟨g, 0, none⟩)), rfl, .inl ⟨rfl, fun V hV => rfl⟩, ?_⟩; simp only [Act.put, lsA, lsB, lsC])
  (refine ⟨_, (.pointer (some ⟨g, 23, none⟩)), rfl, .inl ⟨rfl, fun V hV => rfl⟩, ?_⟩; simp only [Act.put, lsA, lsB, lsC])
  (refine ⟨_, _, rfl, .inl ⟨rfl, fun V hV => (exec_ld 181 (.tmp 28) ⟨g, 23, none⟩ rfl rfl (run_load1 underlying181 rfl hV))⟩, ?_⟩; simp only [Act.put, lsA, lsB, lsC])
  simp only [SeqC]
  have LS : (Instr.loadAt 3 (.pointer (some ⟨g, 25, none⟩))).run prog w3.drew = .ok (.int .i64 (c.sent : Int)) w3.drew := run_load1 underlying3 rfl d25
  refine ord_two 3 8 (by kernel_rfl) ?_ ?_
  ·
   refine opw_ld 3 (some 25) 3 (.tmp 24) ⟨g, 25, none⟩ rfl rfl rfl rfl (by kernel_rfl) LS ?_
   refine ⟨hS, ?_⟩
   simp only [Act.put, lsA, lsB, lsC]
   refine ord_one 8 (by kernel_rfl) ?_
   refine opw_call 8 (some 30) 242 #[.pointer (some ⟨gp, 0, none⟩)] rfl rfl (by kernel_rfl) (by go_simp) PS1.out ?_
   rintro _ _ ⟨rfl, rfl⟩
   refine ⟨_, rfl, hS, ?_⟩
   simp only [Act.put, lsA, lsB, lsC]
   refine held_seq hS 3 [9, 10, 11] rfl (by kernel_rfl) (fun _ _ _ _ _ h => h) rfl rfl ?_
   (refine ⟨_, (.int .i64 ((c.sent + ns : Nat) : Int)), rfl, .inl ⟨rfl, fun V hV => (by go_simp; exact IntWalk.i64_in _ (by omega))⟩, ?_⟩; simp only [Act.put, lsA, lsB, lsC])
   (refine ⟨_, (.pointer (some ⟨g, 0, none⟩)), rfl, .inl ⟨rfl, fun V hV => rfl⟩, ?_⟩; simp only [Act.put, lsA, lsB, lsC])
   (refine ⟨_, (.pointer (some ⟨g, 25, none⟩)), rfl, .inl ⟨rfl, fun V hV => rfl⟩, ?_⟩; simp only [Act.put, lsA, lsB, lsC])
   simp only [SeqC]
   have K3d : HK w3.drew g T { c with tv := vt } := HK3.out
   refine ord_one 12 (by kernel_rfl) ?_
   refine opw_stC 12 3 (.tmp 33) (.tmp 31) rfl rfl rfl (by kernel_rfl) g 25 rfl (.int .i64 ((c.sent + ns : Nat) : Int)) rfl K3d.1 (by rw [K3d.len]; decide) intInfo1 rfl rfl ?_
   intro w7 B7 g7 s7
   have K7 : HK w7 g T { c with tv := vt, sent := c.sent + ns } := K3d.put 15 B7 rfl
   have k6 : Fr (TyS w3.drew LhTy b) w3.drew w7 := Fr.grown g7 K3d.1 (by unfold StTy; decide) ⟨by omega, _, _, K3d.1, .inl rfl⟩
   have k7 : Fr (TyS w3 LhTy b) w3 w7 := Fr.transT (Fr.below ((Below.refl _ _).drew)) k6
   have F7 := Hh (Fr.transT HF3.out k7)
   have T7 := Hh ((TdsO.below HT3.out ((Below.refl _ _).drew)).stays (R' := TdO w7) (fun _ x => own_blk x g7 K3d.1 (by decide)) (fun _ _ x => x.fr k6))
   have O7 : Hid (AdsO w7 0 (.slice Ax xs.length cx) xs) := Hh (HO3.out.stays (fun _ x => k7.own x (by unfold StTy; decide)) (fun _ _ x => x))
   have B7' := B3.drew.grown g7 (by simpa using hgg.symm)
   have Z7' := Z3.drew.grown g7 (by simp; omega)
   have HK7 := Hh K7
   refine ⟨K7.ci 13 (by show some (ptrV c.pp) = _; rw [HPP.out]; rfl), ?_⟩
   simp only [Act.put, lsA, lsB, lsC]
   refine wpAnyH_done (by kernel_rfl) ?_ _
   clear hS K3d B7 g7 s7 K7 k7 LS
   go_wp2_with fail
   go_meet
   case rel => exact ⟨HK7, T7, O7, B7', Z7', F7⟩
  ·
   refine opw_call 8 (some 30) 242 #[.pointer (some ⟨gp, 0, none⟩)] rfl rfl (by kernel_rfl) (by go_simp) PS1.out ?_
   rintro _ _ ⟨rfl, rfl⟩
   refine ⟨_, rfl, hS, ?_⟩
   simp only [Act.put, lsA, lsB, lsC]
   refine ord_one 3 (by kernel_rfl) ?_
   refine opw_ld 3 (some 25) 3 (.tmp 24) ⟨g, 25, none⟩ rfl rfl rfl rfl (by kernel_rfl) LS ?_
   refine ⟨hS, ?_⟩
   simp only [Act.put, lsA, lsB, lsC]
   refine held_seq hS 3 [9, 10, 11] rfl (by kernel_rfl) (fun _ _ _ _ _ h => h) rfl rfl ?_
   (refine ⟨_, (.int .i64 ((c.sent + ns : Nat) : Int)), rfl, .inl ⟨rfl, fun V hV => (by go_simp; exact IntWalk.i64_in _ (by omega))⟩, ?_⟩; simp only [Act.put, lsA, lsB, lsC])
   (refine ⟨_, (.pointer (some ⟨g, 0, none⟩)), rfl, .inl ⟨rfl, fun V hV => rfl⟩, ?_⟩; simp only [Act.put, lsA, lsB, lsC])
   (refine ⟨_, (.pointer (some ⟨g, 25, none⟩)), rfl, .inl ⟨rfl, fun V hV => rfl⟩, ?_⟩; simp only [Act.put, lsA, lsB, lsC])
   simp only [SeqC]
   have K3d : HK w3.drew g T { c with tv := vt } := HK3.out
   refine ord_one 12 (by kernel_rfl) ?_
   refine opw_stC 12 3 (.tmp 33) (.tmp 31) rfl rfl rfl (by kernel_rfl) g 25 rfl (.int .i64 ((c.sent + ns : Nat) : Int)) rfl K3d.1 (by rw [K3d.len]; decide) intInfo1 rfl rfl ?_
   intro w7 B7 g7 s7
   have K7 : HK w7 g T { c with tv := vt, sent := c.sent + ns } := K3d.put 15 B7 rfl
   have k6 : Fr (TyS w3.drew LhTy b) w3.drew w7 := Fr.grown g7 K3d.1 (by unfold StTy; decide) ⟨by omega, _, _, K3d.1, .inl rfl⟩
   have k7 : Fr (TyS w3 LhTy b) w3 w7 := Fr.transT (Fr.below ((Below.refl _ _).drew)) k6
   have F7 := Hh (Fr.transT HF3.out k7)
   have T7 := Hh ((TdsO.below HT3.out ((Below.refl _ _).drew)).stays (R' := TdO w7) (fun _ x => own_blk x g7 K3d.1 (by decide)) (fun _ _ x => x.fr k6))
   have O7 : Hid (AdsO w7 0 (.slice Ax xs.length cx) xs) := Hh (HO3.out.stays (fun _ x => k7.own x (by unfold StTy; decide)) (fun _ _ x => x))
   have B7' := B3.drew.grown g7 (by simpa using hgg.symm)
   have Z7' := Z3.drew.grown g7 (by simp; omega)
   have HK7 := Hh K7
   refine ⟨K7.ci 13 (by show some (ptrV c.pp) = _; rw [HPP.out]; rfl), ?_⟩
   simp only [Act.put, lsA, lsB, lsC]
   refine wpAnyH_done (by kernel_rfl) ?_ _
   clear hS K3d B7 g7 s7 K7 k7 LS
   go_wp2_with fail
   go_meet
   case rel => exact ⟨HK7, T7, O7, B7', Z7', F7⟩
 obtain ⟨HK4, HT4, HO4, B4, Z4, HF4⟩ := hcut
 obtain ⟨w4, rfl⟩ : ∃ w4, w4 = wc := ⟨_, rfl⟩
 clear HK3 HT3 HO3 B3 Z3 HF3 d23 d25 PS
 have K4 := HK4.out
 go_wp2_with (refine at_op (.store 181 (.tmp 36) (.const (.pointer none))) rfl ?_; go_must (refine wpList_stC rfl 181 (.tmp 36) (.const (.pointer none)) rfl g 23 rfl (.pointer none) rfl K4.1 (by rw [K4.len]; decide) pairp_i1 rfl rfl ?_))
 intro w5 B5 g5 sw
 clear sw
 have K5 : HK w5 g T { c with pp := none, tv := vt, sent := c.sent + ns } := K4.put 13 B5 rfl
 have k5 : Fr (TyS w4 LhTy b) w4 w5 := Fr.grown g5 K4.1 (by unfold StTy; decide) ⟨by omega, _, _, K4.1, .inl rfl⟩
 have T5 := HT4.out.stays (R' := TdO w5) (fun _ x => own_blk x g5 K4.1 (by decide)) (fun _ _ x => x.fr k5)
 have O5 : AdsO w5 0 (.slice Ax xs.length cx) xs := HO4.out.stays (fun _ x => k5.own x (by unfold StTy; decide)) (fun _ _ x => x)
 have C5 := B4.grown g5 (by simpa using hgg.symm)
 have Z5 := Z4.grown g5 (by simp; omega)
 have F5 := Fr.transT HF4.out k5
 clear B5 g5 K4 HK4 HT4 HO4 B4 Z4 HF4 k5
 go_wp2_with (first
  | (refine at_op (.load 183 (.tmp 3)) rfl ?_; go_must (refine wpList_ldB rfl _ _ rfl gr 0 rfl C5 4 (Nat.le_refl 4) _ underlying183 rfl presI4 _ rfl ?_))
  | (refine at_op (.store 183 (.tmp 2) (.tmp 37)) rfl ?_; go_must (refine wpList_stB rfl _ _ _ rfl w.heap.size 0 rfl [.int .i64 vd, .slice Ax xs.length cx, vn, .int .i64 ttl] rfl Z5 (Nat.le_refl 4) presI4 hone ?_)))
 intro w6 B6 g6 sw
 clear sw
 have K6 : HK w6 g T { c with pp := none, tv := vt, sent := c.sent + ns } := ⟨K5.1.grown g6 (by simp; omega), K5.2⟩
 have T6 := T5.stays (R' := TdO w6) (fun _ x => own_blk x g6 Z5 (by decide)) (fun _ _ x => x.blkT g6 Z5 (by decide) (by decide) (by decide))
 have O6 := LOwn.blk O5 g6 Z5 (by decide)
 have F6 := Fr.new F5 g6 (Nat.le_refl _)
 have A6 := HAT.out.upd (c' := { c with pp := none, tv := vt, sent := c.sent + ns }) F6 HKK.out K6 ⟨rfl, rfl, rfl, rfl, rfl, rfl⟩ ⟨rfl, rfl, rfl⟩ ⟨TL, T6, by rw [HPP.out] at htll; simp only [reduceCtorEq, if_false, if_true] at htll ⊢; omega⟩ HAT.out.r1 HAT.out.eq.2.2.2.1
 have L6 := HLT.out.frT F6 (by unfold LhTy; decide)
 have HX := Hh (show LvH w0 b g gl D c n L E TK w (.returned (.agg [.int .i64 vd, .slice Ax xs.length cx, vn, .int .i64 ttl].toArray)) w6 from
  ⟨vd, _, vn, ttl, xs, { c with pp := none, tv := vt, sent := c.sent + ns }, rfl, hv15.1, hv15.2, ⟨O6, hxl⟩, hvn,
   ⟨A6, L6, ⟨HNM.out.an, HNM.out.bg, HNM.out.nx⟩, HUS.out, HDS.out, HFIN.out.2, by have := HFIN.out.1; simpa using this, rfl, HDN.out⟩, rfl, rfl, rfl, rfl, F6.toBelowT (Below.refl b w) hbw (Nat.le_refl b), KeepO.fr F6 (by unfold LhTy; decide)⟩)
 clear K5 T5 O5 C5 Z5 F5 g6 K6 T6 O6 F6 A6 L6
 go_wp2_with fail
 exact ret_cell rfl w.heap.size rfl B6 _ underlying183 rfl presI4 rfl HX.out
end
end Go.Proofs.YteimenplbanooaaGreatDoor
