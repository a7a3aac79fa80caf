/-
  XchgPlays:for every input the law returns true,and each argument reads afterwards as it read before. No condition.
-/
import Derived.Test.YthnbcmlnpdabhaaGreatOpenXq
import Derived.Test.YthnbcmlnpdabhaaGreatLaw29pq
namespace Go.Proofs.YthnbcmlnpdabhaaGreat
open _root_.Go.Proofs.Tryz
open Go.ChangeShapes Go.WideShapes Go.ChangeAt Go.RowKit
open Go.ChangeMaps (open_string shut_string)
set_option linter.unusedVariables false
set_option maxRecDepth 100000 in
theorem JH(os:Os)(started:os.Started)(H:Type)(enc:TypeId×Value->H):
  ReturnsInHanded {} Tryz.checked os 8 .any (Rows.xchgPlaysSpec.pre6 enc prog f8 Rows.xchgPlaysRow.domain false) (Rows.xchgPlaysSpec.post enc prog f8 false true false false):=by
 refine returnsInHanded_of_change_sized (C:=Tryz.checked) own started (by kernel_rfl) func8
  (ChangeSpec.witness6 (enc:=enc) (C:=Tryz.checked) false ⟨#[],#[.agg #[.slice none 0 0,.slice none 0 0,.slice none 0 0,.int .i64 0,.int .i64 0,.int .i64 0,.bool false,.bool false,.bool false,.bool false,.slice none 0 0,.int .i64 0,.int .i64 0,.int .i64 0,.slice none 0 0],.slice none 0 0],[]⟩ 8 (by kernel_rfl) (by kernel_rfl) (by kernel_rfl) (by kernel_rfl)) ?_
 intro W base args ds gs before ajr hW ayp akO _;have ajs:∀(j:Nat) t v,f8.params[j]?=some t->args[j]?=some v->Value.okWide prog W .any base t v:=ajr;have hW':=hW;obtain⟨p,q,hA0,hV,rfl,hfz,hnd⟩:=hW;have hA:DataW.TrodAll enc prog W 0 (fun _=>true) true f8.params.toList args.toList ds p:=hA0;rw[Tryz.params8]at hA ajs;obtain⟨v0,vs0,d0,ds0,p0,q0,atm,rfl,rfl,h0,r0⟩:=trodAll_cons hA;obtain⟨v1,vs1,d1,ds1,p1,q1,rfl,rfl,rfl,U,r1⟩:=trodAll_cons r0;obtain⟨rfl,rfl,rfl⟩:=trodAll_nil r1;obtain rfl:args= #[v0,v1]:=by cases args;simp_all
 obtain⟨rfl,rfl⟩:=trodVars_none hV;have lg0:JN prog 72 d0:=nH;have lg1:JN prog 56 d1:=nG;clear akO;have k0:=h0;have lt0:∀x∈p0,x.block<W.heap.size:=kS;obtain⟨cs0,e0,_⟩:=okWide_struct underlying72 (ajs 0 72 v0 J J);subst e0;obtain⟨As,rc,rr,Aq,cq,qq,turn,dw,cdw,hcT,hR,hN,hDw⟩:=Kg (vH.of h0 lg0);have ec0:cs0=(EY (.slice As dw.length cdw) (.slice Aq qq.name.length cq) rc qq turn).toArray:=Array.toList_inj.1 fY;subst ec0;have k1:=U;have lt1:∀x∈p1,x.block<W.heap.size:=kR;obtain⟨b1,n1,c1,e1⟩:=okWide_slice underlying56 (ajs 1 56 v1 J J);subst e1;obtain⟨A1,q1,l1,aiZ,hT1,hl1⟩:=TP (vH.of U lg1);simp[Value.cells]at aiZ;obtain⟨rfl,rfl,rfl⟩:=aiZ;clear hA0 ajr;refine(NF As rc rr Aq cq qq turn dw cdw _ _ l1 W hR hN hDw hT1 hl1).mono fun e W' ⟨he,bel⟩=>?_
 subst he;exact⟨_,J,_,_,_,[],_,[],hW',trodAll_mk1 (shut_bool underlying4 _),(trodAll_cons_mk (Below.trod laidOut (by kernel_rfl) (of_decide_eq_true (by kernel_rfl)) k0 bel lt0) (trodAll_cons_mk (Below.trod laidOut (by kernel_rfl) (of_decide_eq_true (by kernel_rfl)) k1 bel lt1) trodAll_mk0)),J,bel.frame _,fun h=>by cases h⟩
theorem Um:Tryz.pinned.checked.prog.funcNamed Rows.xchgPlaysRow.func=some 8:=by kernel_rfl
theorem Q5:laidOutB Tryz.pinned.checked.prog=true:=by kernel_rfl
theorem Q7:mapsRowed Tryz.pinned.checked.prog=true:=by kernel_rfl
theorem Rf:(Rows.xchgPlaysRow.inPlace==Tryz.pinned.checked.prog.inPlace 8)=true:=by kernel_rfl
theorem Rg:(Rows.xchgPlaysRow.unfollowed==Tryz.pinned.checked.prog.unfollowed 8)=true:=by kernel_rfl
theorem Rh:(Rows.xchgPlaysRow.recurses==Tryz.pinned.checked.prog.recurses 8)=true:=by kernel_rfl
theorem Ri:(Rows.xchgPlaysRow.named==Tryz.pinned.checked.prog.varsNamed 8)=true:=by kernel_rfl
theorem Un:joinedFacts Tryz.pinned.checked.prog 8 f8 Rows.xchgPlaysSpec Rows.xchgPlaysRow=true:=by unfold joinedFacts;rw[Q5,Q7,Rf,Rg,Rh,Ri];kernel_rfl
theorem Uo:f8.isInstance Tryz.pinned.checked.prog Rows.xchgPlaysRow.origin Rows.xchgPlaysRow.targs:=of_decide_eq_true (by kernel_rfl)
theorem Up:f8.isWrapper Tryz.pinned.checked.prog Rows.xchgPlaysRow.wrapper Rows.xchgPlaysRow.mainSum:=by unfold Func.isWrapper;first|(rw[if_pos (by decide+kernel)];kernel_rfl)|(rw[if_neg (by decide+kernel)];exact⟨J,J⟩)
theorem Ni:Rows.xchgPlaysRow.holds Tryz.pinned (OpenSpec.ofChange Rows.xchgPlaysSpec):=
 OpenClaim.holds_of_wide 8 f8 J J J J J J J ⟨J,J,J,J,J⟩ J J J J J Um func8 Un Uo Up (fun os started H enc _=>JH os started H enc)
theorem xchgPlays_proved:Rows.XchgPlaysSaid:=Ni
#print axioms xchgPlays_proved
end Go.Proofs.YthnbcmlnpdabhaaGreat
