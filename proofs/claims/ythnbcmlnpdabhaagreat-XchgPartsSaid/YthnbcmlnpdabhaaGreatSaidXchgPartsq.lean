/-
  XchgParts:for every input the law returns true,and each argument reads afterwards as it read before. No condition.
-/
import Derived.Test.YthnbcmlnpdabhaaGreatOpenXq
import Derived.Test.YthnbcmlnpdabhaaGreatLaw29xq
namespace Go.Proofs.YthnbcmlnpdabhaaGreat
open _root_.Go.Proofs.Tryz
open Go.ChangeShapes Go.WideShapes Go.ChangeAt Go.RowKit
open Go.ChangeMaps (open_string shut_string)
set_option linter.unusedVariables false
set_option maxRecDepth 100000 in
theorem JG(os:Os)(started:os.Started)(H:Type)(enc:TypeId×Value->H):
  ReturnsInHanded {} Tryz.checked os 7 .any (Rows.xchgPartsSpec.pre6 enc prog f7 Rows.xchgPartsRow.domain false) (Rows.xchgPartsSpec.post enc prog f7 false true false false):=by
 refine returnsInHanded_of_change_sized (C:=Tryz.checked) own started (by kernel_rfl) func7
  (ChangeSpec.witness6 (enc:=enc) (C:=Tryz.checked) false ⟨#[],#[.agg #[.slice none 0 0,.slice none 0 0,.slice none 0 0,.int .i64 0,.int .i64 0,.int .i64 0,.bool false,.bool false,.bool false,.bool false,.slice none 0 0,.int .i64 0,.int .i64 0,.int .i64 0,.slice none 0 0],.slice none 0 0,.int .i64 0],[]⟩ 8 (by kernel_rfl) (by kernel_rfl) (by kernel_rfl) (by kernel_rfl)) ?_
 intro W base args ds gs before ajr hW ayp akO _;have ajs:∀(j:Nat) t v,f7.params[j]?=some t->args[j]?=some v->Value.okWide prog W .any base t v:=ajr;have hW':=hW;obtain⟨p,q,hA0,hV,rfl,hfz,hnd⟩:=hW;have hA:DataW.TrodAll enc prog W 0 (fun _=>true) true f7.params.toList args.toList ds p:=hA0;rw[Tryz.params7]at hA ajs;obtain⟨v0,vs0,d0,ds0,p0,q0,atm,rfl,rfl,h0,r0⟩:=trodAll_cons hA;obtain⟨v1,vs1,d1,ds1,p1,q1,rfl,rfl,rfl,U,r1⟩:=trodAll_cons r0;obtain⟨v2,vs2,d2,ds2,p2,q2,rfl,rfl,rfl,X,r2⟩:=trodAll_cons r1;obtain⟨rfl,rfl,rfl⟩:=trodAll_nil r2;obtain rfl:args= #[v0,v1,v2]:=by cases args;simp_all
 obtain⟨rfl,rfl⟩:=trodVars_none hV;have lg0:JN prog 72 d0:=nH;have lg1:JN prog 56 d1:=nG;have lg2:JN prog 3 d2:=Hi (P:=prog) (i:=2) akO aO aO;clear akO;have k0:=h0;have lt0:∀x∈p0,x.block<W.heap.size:=kS;obtain⟨cs0,e0,_⟩:=okWide_struct underlying72 (ajs 0 72 v0 J J);subst e0;obtain⟨As,rc,rr,Aq,cq,qq,turn,dw,cdw,hcT,hR,hN,hDw⟩:=Kg (vH.of h0 lg0);have ec0:cs0=(EY (.slice As dw.length cdw) (.slice Aq qq.name.length cq) rc qq turn).toArray:=Array.toList_inj.1 fY;subst ec0;have k1:=U;have lt1:∀x∈p1,x.block<W.heap.size:=kR;obtain⟨b1,n1,c1,e1⟩:=okWide_slice underlying56 (ajs 1 56 v1 J J);subst e1;obtain⟨A1,q1,l1,aiZ,hT1,hl1⟩:=TP (vH.of U lg1);simp[Value.cells]at aiZ;obtain⟨rfl,rfl,rfl⟩:=aiZ;have k2:=X;have lt2:∀x∈p2,x.block<W.heap.size:=by obtain⟨m,hm⟩:=k2;exact DataW.trod_lt m _ _ _ hm
 obtain⟨a2,e2,_,_,w2⟩:=open_int underlying3 (ajs 2 3 v2 J J) X;subst e2;clear hA0 ajr;refine(ND As rc rr Aq cq qq turn dw cdw _ _ l1 a2 W hR hN hDw hT1 hl1).mono fun e W' ⟨he,bel⟩=>?_
 subst he;exact⟨_,J,_,_,_,[],_,[],hW',trodAll_mk1 (shut_bool underlying4 _),(trodAll_cons_mk (Below.trod laidOut (by kernel_rfl) (of_decide_eq_true (by kernel_rfl)) k0 bel lt0) (trodAll_cons_mk (Below.trod laidOut (by kernel_rfl) (of_decide_eq_true (by kernel_rfl)) k1 bel lt1) (trodAll_cons_mk (Below.trod laidOut (by kernel_rfl) (of_decide_eq_true (by kernel_rfl)) k2 bel lt2) trodAll_mk0))),J,bel.frame _,fun h=>by cases h⟩
theorem Ui:Tryz.pinned.checked.prog.funcNamed Rows.xchgPartsRow.func=some 7:=by kernel_rfl
theorem QS:laidOutB Tryz.pinned.checked.prog=true:=by kernel_rfl
theorem QT:mapsRowed Tryz.pinned.checked.prog=true:=by kernel_rfl
theorem QW:(Rows.xchgPartsRow.inPlace==Tryz.pinned.checked.prog.inPlace 7)=true:=by kernel_rfl
theorem QX:(Rows.xchgPartsRow.unfollowed==Tryz.pinned.checked.prog.unfollowed 7)=true:=by kernel_rfl
theorem QY:(Rows.xchgPartsRow.recurses==Tryz.pinned.checked.prog.recurses 7)=true:=by kernel_rfl
theorem QZ:(Rows.xchgPartsRow.named==Tryz.pinned.checked.prog.varsNamed 7)=true:=by kernel_rfl
theorem Uj:joinedFacts Tryz.pinned.checked.prog 7 f7 Rows.xchgPartsSpec Rows.xchgPartsRow=true:=by unfold joinedFacts;rw[QS,QT,QW,QX,QY,QZ];kernel_rfl
theorem Uk:f7.isInstance Tryz.pinned.checked.prog Rows.xchgPartsRow.origin Rows.xchgPartsRow.targs:=of_decide_eq_true (by kernel_rfl)
theorem Ul:f7.isWrapper Tryz.pinned.checked.prog Rows.xchgPartsRow.wrapper Rows.xchgPartsRow.mainSum:=by unfold Func.isWrapper;first|(rw[if_pos (by decide+kernel)];kernel_rfl)|(rw[if_neg (by decide+kernel)];exact⟨J,J⟩)
theorem Nh:Rows.xchgPartsRow.holds Tryz.pinned (OpenSpec.ofChange Rows.xchgPartsSpec):=
 OpenClaim.holds_of_wide 7 f7 J J J J J J J ⟨J,J,J,J,J⟩ J J J J J Ui func7 Uj Uk Ul (fun os started H enc _=>JG os started H enc)
theorem xchgParts_proved:Rows.XchgPartsSaid:=Nh
#print axioms xchgParts_proved
end Go.Proofs.YthnbcmlnpdabhaaGreat
