/-
  Layer 21, the reference (setup): Bits, Holds, names; what Resolv makes of the servers.
-/
import Derived.Test.YthnbcmlnpdabhaaGreatICq
namespace Go.Proofs.YthnbcmlnpdabhaaGreat
open _root_.Go.Proofs.Tryz
open Go.RowKit
set_option maxRecDepth 100000
set_option linter.unusedVariables false
set_option linter.unusedSimpArgs false
def WkI (w : World) (e : Ending) (w' : World) : Prop := ∃ z : Int, e = .returned (.int .i64 z) ∧ Below w.heap.size w w'
theorem refBits_any (a : Adr) (h : a.ip.length = 16) (w : World) : Calls prog 192 #[.agg a.cells.toArray] w (RetB (.int .i64 (bitsA a)) w) := by
 have c0 := (Blk.new w 24 a.cells).cell_ 0 (u := .int .i64 a.fam) rfl
 have HB : Below w.heap.size w (w.alloc (.cells a.cells.toArray 24)) := (Below.refl _ _).alloc (Nat.le_refl _) _
 have K : bitsA a = if a.fam = 4 then 32 else if a.fam = 6 then 128 else 0 := rfl
 have HK := Hh K
 clear K h
 generalize a.cells = L at *
 generalize a.fam = f at *
 go_enter func192, ntmps192
 by_cases h4 : f = 4
 ·
  subst h4
  go_wp2_with fail
  go_ret
  exact RetB.mk (by rw [HK.out]; rfl) HB
 ·
  have h4' : (f == 4) = false := by simpa using h4
  by_cases h6 : f = 6
  ·
   subst h6
   go_wp2_with fail
   go_ret
   exact RetB.mk (by rw [HK.out]; rfl) HB
  ·
   have h6' : (f == 6) = false := by simpa using h6
   rw [if_neg h4, if_neg h6] at HK
   clear h4 h6
   go_wp2_with fail
   go_ret
   exact RetB.mk (by rw [HK.out]; rfl) HB
theorem refHolds_any (p : Adr × Int) (h : p.1.ip.length = 16) (w : World) : Calls prog 145 #[.agg (pfC p).toArray] w (WkI w) := by
 have hcl := pfC_len h
 have hca := pfC_ad h
 have B := Blk.new w 236 (pfC p)
 have p18 := pfC_18 h
 have AC := Hh (fun W => refCheck09_any p.1 h W)
 have BA := Hh (fun W => refBits_any p.1 h W)
 have HB : Below w.heap.size w (w.alloc (.cells (pfC p).toArray 236)) := (Below.refl _ _).alloc (Nat.le_refl _) _
 have HCA := Hh hca
 clear h hca
 generalize pfC p = L at *
 generalize p.1.cells = M at *
 generalize p.1.check = ck at *
 generalize bitsA p.1 = bt at *
 generalize p.2 = n at *
 go_enter func145, ntmps145
 go_wp2_with (refine at_op (.load 24 (.tmp 4)) rfl ?_; go_must (refine wpList_ldB rfl _ _ rfl w.heap.size 0 rfl B 18 (by omega) _ underlying24 rfl adI18 M HCA.out ?_))
 refine (AC.out _).mono ?_
 rintro _ w1 ⟨rfl, b1⟩
 have B1 := B.below b1 B.lt
 have H1 := below_then HB HB.size b1
 have LD : Hid (∀ V, Below w1.heap.size w1 V → (Instr.loadAt 3 (.pointer (some ⟨w.heap.size, 18, none⟩))).run prog V = .ok (.int .i64 n) V) := Hh (fun V hV => run_load1 underlying3 rfl ((B1.below hV B1.lt).cell_ 18 p18))
 have LA : Hid (∀ V, Below w1.heap.size w1 V → (Instr.loadAt 24 (.pointer (some ⟨w.heap.size, 0, none⟩))).run prog V = .ok (.agg M.toArray) V) := Hh (fun V hV => (B1.below hV B1.lt).loads 24 0 18 (by omega) _ underlying24 rfl adI18 _ HCA.out)
 clear b1 p18 HB AC B B1
 go_wp2_with fail
 by_cases hck : ck = 0
 case neg =>
  have hck' : (ck == 0) = false := by simpa using hck
  clear hck
  refine wp_region_held_drew (S := fun V => Below w1.heap.size w1 V) (by kernel_rfl) (Below.refl _ _).drew (fun hS => ?_)
  refine held_seq hS 15 [0,1,2,3,4,5,6,7,8,9,10,11,12,13,14] rfl (by kernel_rfl) (fun _ _ _ _ _ h => h) rfl rfl ?_
  repeat (refine ⟨_, _, rfl, .inl ⟨rfl, fun W hW => rfl⟩, ?_⟩; simp only [Act.put, lsA, lsB, lsC])
  simp only [hck']
  repeat (refine ⟨_, _, rfl, .inl ⟨rfl, fun W hW => rfl⟩, ?_⟩; simp only [Act.put, lsA, lsB, lsC])
  repeat (refine ⟨_, undef, rfl, .inr ⟨rfl, rfl⟩, ?_⟩; simp only [Act.put, lsA, lsB, lsC])
  repeat (refine ⟨_, _, rfl, .inl ⟨rfl, fun W hW => rfl⟩, ?_⟩; simp only [Act.put, lsA, lsB, lsC])
  simp only [SeqC]
  refine wpAnyH_done (by kernel_rfl) ?_ _
  go_wp2_with fail
  go_ret
  exact ⟨_, rfl, below_then H1 H1.size hS⟩
 subst hck
 by_cases hn : n < 0
 case pos =>
  have hn' : decide (n < 0) = true := by simpa using hn
  refine wp_region_held_drew (S := fun V => Below w1.heap.size w1 V) (by kernel_rfl) (Below.refl _ _).drew (fun hS => ?_)
  refine held_seq hS 15 [0,1,2,3,4,5,6,7,8,9,10,11,12,13,14] rfl (by kernel_rfl) (fun _ _ _ _ _ h => h) rfl rfl ?_
  repeat (refine ⟨_, _, rfl, .inl ⟨rfl, fun W hW => rfl⟩, ?_⟩; simp only [Act.put, lsA, lsB, lsC])
  (refine ⟨_, _, rfl, .inl ⟨rfl, fun V hV => (exec_ld 3 (.tmp 10) ⟨w.heap.size, 18, none⟩ rfl rfl (LD.out V hV))⟩, ?_⟩; simp only [Act.put, lsA, lsB, lsC])
  repeat (refine ⟨_, _, rfl, .inl ⟨rfl, fun W hW => rfl⟩, ?_⟩; simp only [Act.put, lsA, lsB, lsC])
  simp only [hn']
  repeat (refine ⟨_, undef, rfl, .inr ⟨rfl, rfl⟩, ?_⟩; simp only [Act.put, lsA, lsB, lsC])
  repeat (refine ⟨_, _, rfl, .inl ⟨rfl, fun W hW => rfl⟩, ?_⟩; simp only [Act.put, lsA, lsB, lsC])
  simp only [SeqC]
  refine wpAnyH_done (by kernel_rfl) ?_ _
  go_wp2_with fail
  go_ret
  exact ⟨_, rfl, below_then H1 H1.size hS⟩
 have hn' : decide (n < 0) = false := by simpa using hn
 refine wp_region_held_drew (S := fun V => Below w1.heap.size w1 V) (by kernel_rfl) (Below.refl _ _).drew (fun hS => ?_)
 refine held_seq hS 11 [0,1,2,3,4,5,6,7,8,9,10] rfl (by kernel_rfl) (fun _ _ _ _ _ h => h) rfl rfl ?_
 repeat (refine ⟨_, _, rfl, .inl ⟨rfl, fun W hW => rfl⟩, ?_⟩; simp only [Act.put, lsA, lsB, lsC])
 (refine ⟨_, _, rfl, .inl ⟨rfl, fun V hV => (exec_ld 3 (.tmp 10) ⟨w.heap.size, 18, none⟩ rfl rfl (LD.out V hV))⟩, ?_⟩; simp only [Act.put, lsA, lsB, lsC])
 repeat (refine ⟨_, _, rfl, .inl ⟨rfl, fun W hW => rfl⟩, ?_⟩; simp only [Act.put, lsA, lsB, lsC])
 simp only [hn']
 repeat (refine ⟨_, _, rfl, .inl ⟨rfl, fun W hW => rfl⟩, ?_⟩; simp only [Act.put, lsA, lsB, lsC])
 (refine ⟨_, _, rfl, .inl ⟨rfl, fun V hV => (exec_ld 3 (.tmp 14) ⟨w.heap.size, 18, none⟩ rfl rfl (LD.out V hV))⟩, ?_⟩; simp only [Act.put, lsA, lsB, lsC])
 repeat (refine ⟨_, _, rfl, .inl ⟨rfl, fun W hW => rfl⟩, ?_⟩; simp only [Act.put, lsA, lsB, lsC])
 (refine ⟨_, _, rfl, .inl ⟨rfl, fun V hV => (exec_ld 24 (.tmp 16) ⟨w.heap.size, 0, none⟩ rfl rfl (LA.out V hV))⟩, ?_⟩; simp only [Act.put, lsA, lsB, lsC])
 simp only [SeqC]
 refine held_call 11 (some 18) 192 #[.agg M.toArray] (by kernel_rfl) rfl rfl (by kernel_rfl) (by go_simp) (BA.out _) ?_
 rintro _ w2 ⟨rfl, b2⟩
 refine ⟨_, rfl, below_then hS hS.size b2, ?_⟩
 have hS := below_then hS hS.size b2
 simp only [Act.put, lsA, lsB, lsC]
 refine held_seq hS 3 [12,13,14] rfl (by kernel_rfl) (fun _ _ _ _ _ h => h) rfl rfl ?_
 repeat (refine ⟨_, _, rfl, .inl ⟨rfl, fun W hW => rfl⟩, ?_⟩; simp only [Act.put, lsA, lsB, lsC])
 simp only [SeqC]
 refine wpAnyH_done (by kernel_rfl) ?_ _
 clear LD LA b2
 by_cases hb : bt < n
 all_goals
  go_wp2_with fail
  go_ret
  exact ⟨_, rfl, below_then H1 H1.size hS⟩
theorem refName_any (A : Option Addr) (c : Nat) (n : List (List UInt8)) (hm : n.length ≤ 281474976710656) (w : World) (h : TxtR w A n) : Calls prog 193 #[.slice A n.length c] w (Ret (.bool (nmOk n)) w) := by
 have CK := Hh (refCheck05_any A c n w h hm)
 have K : nmOk n = (decide (0 < n.length) && (checkN n == 0)) := rfl
 have HK := Hh K
 clear K h
 generalize checkN n = ck at *
 by_cases h0 : 0 < n.length
 case neg =>
  have h0' : ¬ ((0 : Int) < n.length) := by omega
  have HK2 : Hid (nmOk n = false) := Hh (by rw [HK.out]; simp; omega)
  clear HK CK hm
  generalize n.length = k at *
  go_enter func193, ntmps193
  go_wp2_with fail
  go_ret
  exact Ret.mk (by rw [HK2.out]; rfl) rfl
 have h0' : (0 : Int) < n.length := by omega
 have HK2 : Hid (nmOk n = (ck == 0)) := Hh (by rw [HK.out]; simp [h0])
 clear HK hm
 generalize n.length = k at *
 go_enter func193, ntmps193
 go_wp2_with fail
 refine CK.out.mono ?_
 rintro _ w1 ⟨rfl, rfl⟩
 clear CK
 go_wp2_with fail
 go_ret
 exact Ret.mk (by rw [HK2.out]; rfl) rfl
theorem exec_bsG {P : Program} {w w' : World} {o : Oper} {a : Act} {t : TypeId} {cs : List Value} {v : Value} (x : Operand) (ho : o.op = .buildSlice t 1 #[(0, x)]) (hx : a.eval x = .agg cs.toArray) (hr : (Instr.buildSlice t 1 #[(0, .agg cs.toArray)]).run P w = .ok v w') : (execOp a.eval o).run P w = .ok (.value v) w' := by
 unfold execOp
 simp only [ho, Sem.run_bind, Sem.run_pure, Result.andThen_ok, List.map_toArray, List.map_cons, List.map_nil, hx, hr]
theorem exec_apG {P : Program} {w w' : World} {v v' x : Value} {t ty : TypeId} {o : Oper} {a : Act} (sl y : Operand) (ho : o.op = .call { callee := .builtin .append, args := #[sl, y], argTypes := #[t, t] }) (hty : o.type = ty) (hs : a.eval sl = v) (hy : a.eval y = x)
  (hr : (Builtin.append_ #[t, t] ty #[v, x]).run P w = .ok v' w') : (execOp a.eval o).run P w = .ok (.value v') w' := by
 subst hty
 unfold execOp
 simp only [ho, resolve, invoke, builtin, Sem.run_bind, Sem.run_pure, Result.andThen_ok, List.map_toArray, List.map_cons, List.map_nil, hs, hy, hr]
set_option maxHeartbeats 1000000 in
theorem refNames_any (w0 : World) (A : Option Addr) (c : Nat) (l : List (List (List UInt8))) (m : Nat) (w : World) (hA : NmsR w0 A l) (hw : Below w0.heap.size w0 w) (hl : l.length ≤ 17592186044416) (hm : m ≤ 100) :
  Calls prog 146 #[.slice A l.length c, .int .i64 m] w (LeftRet 26 1 (fun _ => NmI w0) (leftP nmOk l m) w) := by
 obtain ⟨p, hp⟩ : ∃ p, p = nmOk := ⟨_, rfl⟩
 have MS := Hh (fun A c n W h1 h2 => refName_any A c n W h1 h2)
 rw [← hp] at MS ⊢
 clear hp
 go_enter func146, ntmps146
 go_wp2_with fail
 go_loopw [5, 6] (fun kv iv wr => ∃ k : Nat, k ≤ l.length ∧ iv = .int .i64 k ∧ NmlO w0 wr w.heap.size kv ((l.take k).filter p) ∧ ((l.take k).filter p).length ≤ m ∧ Below w.heap.size w wr) (fun _ iv _ => l.length - (intOf iv).toNat)
 case atStart => exact ⟨0, Nat.zero_le _, rfl, LOwn.nil _ _ _ _ _, by simp, Below.refl _ _⟩
 obtain ⟨k, hk, rfl, ho, hle, hB⟩ := hrel
 obtain ⟨Ak, ck, hv⟩ := ho.form
 subst hv
 by_cases hlt : k < l.length
 case neg =>
  have hlt' : ¬ (k : Int) < l.length := by omega
  go_wp2_with fail
  go_ret
  refine ⟨_, rfl, ?_, hB⟩
  rw [List.take_of_length_le (by omega)] at ho hle
  rw [List.take_of_length_le (by omega), left_all hle]
  exact ho
 have hlt' : (k : Int) < l.length := by omega
 obtain ⟨b, off, rfl, hb, hr⟩ := hA (by omega)
 obtain ⟨An, cn, ce, hnm⟩ := hr k hlt
 have hBW := below_then hw hw.size hB
 replace ce := (hBW.cell (p := ⟨b, off + k, none⟩) hb).trans ce
 have hln := hnm.2.2.1
 have MK := Hh (MS.out An cn l[k] (by omega) wr (hnm.below hBW).1)
 have HO := Hh ho
 have HI := Hh hnm
 clear hr ho hA MS hnm hBW hw
 by_cases hful : ((l.take k).filter p).length < m
 case neg =>
  have hful' : ¬ (((l.take k).filter p).length : Int) < m := by omega
  go_wp2_with fail
  go_ret
  refine ⟨_, rfl, ?_, hB⟩
  have e : ((l.take k).filter p).length = m := by omega
  rw [left_full e]
  exact HO.out
 have hful' : (((l.take k).filter p).length : Int) < m := by omega
 have FS := Hh (filter_succ (p := p) hlt)
 have hlen : ((l.take k).filter p).length + 1 ≤ 200 := by omega
 have NI : Hid (NmI w0 [.slice An l[k].length cn] l[k]) := Hh ⟨An, cn, rfl, HI.out⟩
 generalize l[k].length = nl at *
 go_wp2_with fail
 refine MK.out.mono ?_
 rintro _ w2 ⟨rfl, rfl⟩
 clear MK
 cases hpk : p l[k] with
 | false =>
  rw [hpk] at FS
  have HP := Hh hpk
  clear hpk
  go_wp2_with fail
  go_roundw
  case rel => exact ⟨k + 1, by omega, by go_num, by rw [FS.out]; simpa using HO.out, by rw [FS.out]; simpa using hle, hB⟩
  case measure => simp [intOf]; omega
 | true =>
  rw [hpk] at FS
  have HP := Hh hpk
  have K3 : Below wr.heap.size wr (wr.alloc (.cells #[.slice An nl cn] 26)) := (Below.refl _ _).alloc (Nat.le_refl _) _
  have N3 := HO.out.ne (Nat.le_refl _)
  clear hpk
  go_wp2_with (at_builtin; go_must (refine wpList_app1 _ rfl _ _ 66 rfl 26 _ 1 24 underlying66 nmInfo3 (by kernel_rfl) (by decide) w.heap.size _ _ rfl (LOwn.below (R' := NmI w0) HO.out K3 (fun _ _ h => h)) (by have := hB.size; simp; omega) wr.heap.size [.slice An nl cn] l[k] rfl (Blk.new _ _ _) N3 rfl (by simp [Value.oneCell']) NI.out (by simp only [maxLen]; omega) (by omega) ?_))
  intro v' w4 O4 g4
  have H4 := (below_then hB hB.size K3).grown g4 (by have := hB.size; simp; omega) HO.out.base
  clear g4 K3 N3
  go_wp2_with fail
  go_roundw
  case rel => exact ⟨k + 1, by omega, by go_num, by rw [FS.out]; exact O4, by rw [FS.out]; simp; omega, H4⟩
  case measure => simp [intOf]; omega
end Go.Proofs.YthnbcmlnpdabhaaGreat
