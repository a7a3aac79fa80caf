/-
  XchgForged:for every input the law returns true,and each argument reads afterwards as it read before. No condition.
-/
import Derived.Test.YthnbcmlnpdabhaaGreatOpenXz
import Derived.Test.YthnbcmlnpdabhaaGreatOpenFz
namespace Go.Proofs.YthnbcmlnpdabhaaGreat
open _root_.Go.Proofs.Tryz
open Go.ChangeShapes Go.WideShapes Go.ChangeAt Go.RowKit
open Go.ChangeMaps (open_string shut_string)
set_option linter.unusedVariables false
set_option maxRecDepth 100000 in
theorem Ip(os:Os)(started:os.Started)(H:Type)(enc:TypeId×Value->H):
  ReturnsInHanded {} Tryz.checked os 5 .any (Rows.xchgForgedSpec.pre6 enc prog f5 Rows.xchgForgedRow.domain false) (Rows.xchgForgedSpec.post enc prog f5 false true false false):=by
 refine returnsInHanded_of_change_sized (C:=Tryz.checked) own started (by kernel_rfl) func5
  (ChangeSpec.witness6 (enc:=enc) (C:=Tryz.checked) false ⟨#[],#[.agg #[.slice none 0 0,.slice none 0 0,.slice none 0 0,.int .i64 0,.int .i64 0,.int .i64 0,.bool false,.bool false,.bool false,.bool false,.slice none 0 0,.int .i64 0,.int .i64 0,.int .i64 0,.slice none 0 0],.slice none 0 0,.agg #[.int .i64 0,.int .i64 0,.int .i64 0,.int .u8 0,.int .u8 0,.int .u8 0,.int .u8 0,.int .u8 0,.int .u8 0,.int .u8 0,.int .u8 0,.int .u8 0,.int .u8 0,.int .u8 0,.int .u8 0,.int .u8 0,.int .u8 0,.int .u8 0,.int .u8 0,.int .i64 0,.int .i64 0,.int .i64 0,.string ⟨#[]⟩]],[]⟩ 8 (by kernel_rfl) (by kernel_rfl) (by kernel_rfl) (by kernel_rfl)) ?_
 intro W base args ds gs before ang hW aFC amo _;have amn:∀(j:Nat) t v,f5.params[j]?=some t->args[j]?=some v->Value.okWide prog W .any base t v:=ang;have hW':=hW;obtain⟨p,q,hA0,hV,rfl,hfz,hnd⟩:=hW;have hA:DataW.TrodAll enc prog W 0 (fun _=>true) true f5.params.toList args.toList ds p:=hA0;rw[Tryz.params5]at hA amn;obtain⟨v0,vs0,d0,ds0,p0,q0,aAY,rfl,rfl,h0,r0⟩:=trodAll_cons hA;obtain⟨v1,vs1,d1,ds1,p1,q1,rfl,rfl,rfl,U,r1⟩:=trodAll_cons r0;obtain⟨v2,vs2,d2,ds2,p2,q2,rfl,rfl,rfl,X,r2⟩:=trodAll_cons r1;obtain⟨rfl,rfl,rfl⟩:=trodAll_nil r2;obtain rfl:args= #[v0,v1,v2]:=by cases args;simp_all
 obtain⟨rfl,rfl⟩:=trodVars_none hV;have lg0:Nm prog 72 d0:=Gu (P:=prog) (i:=0) amo aN aN;have lg1:Nm prog 56 d1:=Gu (P:=prog) (i:=1) amo aN aN;have lg2:Nm prog 74 d2:=Gu (P:=prog) (i:=2) amo aN aN;clear amo;have k0:=h0;have lt0:∀x∈p0,x.block<W.heap.size:=by obtain⟨m,hm⟩:=k0;exact DataW.trod_lt m _ _ _ hm
 obtain⟨cs0,e0,_⟩:=okWide_struct underlying72 (amn 0 72 v0 J J);subst e0;obtain⟨As,rc,rr,Aq,cq,qq,turn,dw,cdw,hcT,hR,hN,hDw⟩:=SI (uT.of h0 lg0);have ec0:cs0=(GQ (.slice As dw.length cdw) (.slice Aq qq.name.length cq) rc qq turn).toArray:=Array.toList_inj.1 (by simpa[Value.cells]using hcT);subst ec0;have k1:=U;have lt1:∀x∈p1,x.block<W.heap.size:=by obtain⟨m,hm⟩:=k1;exact DataW.trod_lt m _ _ _ hm
 obtain⟨b1,n1,c1,e1⟩:=okWide_slice underlying56 (amn 1 56 v1 J J);subst e1;obtain⟨A1,q1,l1,aj3,hT1,hl1⟩:=aam (uT.of U lg1);simp[Value.cells]at aj3;obtain⟨rfl,rfl,rfl⟩:=aj3;have k2:=X;have lt2:∀x∈p2,x.block<W.heap.size:=by obtain⟨m,hm⟩:=k2;exact DataW.trod_lt m _ _ _ hm
 obtain⟨cs2,e2,_⟩:=okWide_struct underlying74 (amn 2 74 v2 J J);subst e2;obtain⟨on2,ev2,hE2,hi2,hd2⟩:=aaH (uT.of X lg2);have ec2:cs2=(otC on2 ev2).toArray:=Array.toList_inj.1 (by simpa[Value.cells]using hE2);subst ec2;clear hA0 ang;refine(Mq As rc rr Aq cq qq turn dw cdw _ _ l1 on2 ev2 W hR hN hDw hT1 hl1 hi2 hd2).mono fun e W' ⟨he,bel⟩=>?_
 subst he;exact⟨_,J,_,_,_,[],_,[],hW',trodAll_mk1 (shut_bool underlying4 _),(trodAll_cons_mk (Below.trod laidOut (by kernel_rfl) (of_decide_eq_true (by kernel_rfl)) k0 bel lt0) (trodAll_cons_mk (Below.trod laidOut (by kernel_rfl) (of_decide_eq_true (by kernel_rfl)) k1 bel lt1) (trodAll_cons_mk (Below.trod laidOut (by kernel_rfl) (of_decide_eq_true (by kernel_rfl)) k2 bel lt2) trodAll_mk0))),J,bel.frame _,fun h=>by cases h⟩
theorem P8:Tryz.pinned.checked.prog.funcNamed Rows.xchgForgedRow.func=some 5:=by kernel_rfl
theorem MP:laidOutB Tryz.pinned.checked.prog=true:=by kernel_rfl
theorem MQ:mapsRowed Tryz.pinned.checked.prog=true:=by kernel_rfl
theorem MR:(Rows.xchgForgedRow.inPlace==Tryz.pinned.checked.prog.inPlace 5)=true:=by kernel_rfl
theorem MT:(Rows.xchgForgedRow.unfollowed==Tryz.pinned.checked.prog.unfollowed 5)=true:=by kernel_rfl
theorem MU:(Rows.xchgForgedRow.recurses==Tryz.pinned.checked.prog.recurses 5)=true:=by kernel_rfl
theorem MV:(Rows.xchgForgedRow.named==Tryz.pinned.checked.prog.varsNamed 5)=true:=by kernel_rfl
theorem P9:joinedFacts Tryz.pinned.checked.prog 5 f5 Rows.xchgForgedSpec Rows.xchgForgedRow=true:=by unfold joinedFacts;rw[MP,MQ,MR,MT,MU,MV];kernel_rfl
theorem Qa:f5.isInstance Tryz.pinned.checked.prog Rows.xchgForgedRow.origin Rows.xchgForgedRow.targs:=of_decide_eq_true (by kernel_rfl)
theorem Qb:f5.isWrapper Tryz.pinned.checked.prog Rows.xchgForgedRow.wrapper Rows.xchgForgedRow.mainSum:=by unfold Func.isWrapper;first|(rw[if_pos (by decide+kernel)];kernel_rfl)|(rw[if_neg (by decide+kernel)];exact⟨J,J⟩)
theorem JT:Rows.xchgForgedRow.holds Tryz.pinned (OpenSpec.ofChange Rows.xchgForgedSpec):=
 OpenClaim.holds_of_wide 5 f5 J J J J J J J ⟨J,J,J,J,J⟩ J J J J J P8 func5 P9 Qa Qb (fun os started H enc _=>Ip os started H enc)
theorem xchgForged_proved:Rows.XchgForgedSaid:=JT
#print axioms xchgForged_proved
end Go.Proofs.YthnbcmlnpdabhaaGreat
