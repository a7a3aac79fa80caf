/-
  HostFiles:for every input the law returns true,and each argument reads afterwards as it read before. No condition.
-/
import Derived.Test.YtakkipnmpmobbaaGreatOpenHq
import Derived.Test.YtakkipnmpmobbaaGreatHz1q
namespace Go.Proofs.YtakkipnmpmobbaaGreat
open _root_.Go.Proofs.Tryz
open Go.ChangeShapes Go.WideShapes Go.ChangeAt Go.RowKit
open Go.ChangeMaps (open_string shut_string)
set_option linter.unusedVariables false
set_option maxRecDepth 100000 in
theorem GH(os:Os)(started:os.Started)(H:Type)(enc:TypeId×Value->H):
  ReturnsInHanded {} Tryz.checked os 3 .any (Rows.hostFilesSpec.pre6 enc prog f3 Rows.hostFilesRow.domain false) (Rows.hostFilesSpec.post enc prog f3 false true false false):=by
 refine returnsInHanded_of_change_sized (C:=Tryz.checked) own started (by kernel_rfl) func3
  (ChangeSpec.witness6 (enc:=enc) (C:=Tryz.checked) false ⟨#[],#[.slice none 0 0,.slice none 0 0,.int .i64 0],[]⟩ 8 (by kernel_rfl) (by kernel_rfl) (by kernel_rfl) (by kernel_rfl)) ?_
 intro W base args ds gs before akF hW aBM ama _;have akG:∀(j:Nat) t v,f3.params[j]?=some t->args[j]?=some v->Value.okWide prog W .any base t v:=akF;have hW':=hW;obtain⟨p,q,hA0,hV,rfl,hfz,hnd⟩:=hW;have hA:DataW.TrodAll enc prog W 0 (fun _=>true) true f3.params.toList args.toList ds p:=hA0;rw[Tryz.params3]at hA akG;obtain⟨v0,vs0,d0,ds0,p0,q0,avy,rfl,rfl,h0,r0⟩:=trodAll_cons hA;obtain⟨v1,vs1,d1,ds1,p1,q1,rfl,rfl,rfl,U,r1⟩:=trodAll_cons r0;obtain⟨v2,vs2,d2,ds2,p2,q2,rfl,rfl,rfl,F,r2⟩:=trodAll_cons r1;obtain⟨rfl,rfl,rfl⟩:=trodAll_nil r2;obtain rfl:args= #[v0,v1,v2]:=by cases args;simp_all
 obtain⟨rfl,rfl⟩:=trodVars_none hV;have lg0:GK prog 22 d0:=lD;have lg1:GK prog 24 d1:=lC;have lg2:GK prog 3 d2:=DP (P:=prog) (i:=2) ama aN aN;clear ama;have k0:=h0;have lt0:∀x∈p0,x.block<W.heap.size:=jF;obtain⟨b0,n0,c0,e0⟩:=okWide_slice underlying22 (akG 0 22 v0 I I);subst e0;obtain⟨A0,q0,l0,ahi,hT0,hl0⟩:=Nt (sj.of h0 lg0);simp[Value.cells]at ahi;obtain⟨rfl,rfl,rfl⟩:=ahi;have k1:=U;have lt1:∀x∈p1,x.block<W.heap.size:=jE;obtain⟨b1,n1,c1,e1⟩:=okWide_slice underlying24 (akG 1 24 v1 I I);subst e1;obtain⟨A1,q1,l1,aiB,hT1⟩:=DQ underlying24 (sj.of U lg1);simp[Value.cells]at aiB;obtain⟨rfl,rfl,rfl⟩:=aiB;have k2:=F;have lt2:∀x∈p2,x.block<W.heap.size:=by obtain⟨m,hm⟩:=k2;exact DataW.trod_lt m _ _ _ hm
 obtain⟨a2,e2,_,_,w2⟩:=open_int underlying3 (akG 2 3 v2 I I) F;subst e2;clear hA0 akF;refine(KW _ _ _ _ l0 l1 a2 W hT0 hl0 hT1).mono fun e W' ⟨he,bel⟩=>?_
 subst he;exact⟨_,I,_,_,_,[],_,[],hW',trodAll_mk1 (shut_bool underlying4 _),(trodAll_cons_mk (Below.trod laidOut (by kernel_rfl) (of_decide_eq_true (by kernel_rfl)) k0 bel lt0) (trodAll_cons_mk (Below.trod laidOut (by kernel_rfl) (of_decide_eq_true (by kernel_rfl)) k1 bel lt1) (trodAll_cons_mk (Below.trod laidOut (by kernel_rfl) (of_decide_eq_true (by kernel_rfl)) k2 bel lt2) trodAll_mk0))),I,bel.frame _,fun h=>by cases h⟩
theorem SP:Tryz.pinned.checked.prog.funcNamed Rows.hostFilesRow.func=some 3:=by kernel_rfl
theorem Pj:laidOutB Tryz.pinned.checked.prog=true:=by kernel_rfl
theorem Pk:mapsRowed Tryz.pinned.checked.prog=true:=by kernel_rfl
theorem Pm:(Rows.hostFilesRow.inPlace==Tryz.pinned.checked.prog.inPlace 3)=true:=by kernel_rfl
theorem Pn:(Rows.hostFilesRow.unfollowed==Tryz.pinned.checked.prog.unfollowed 3)=true:=by kernel_rfl
theorem Po:(Rows.hostFilesRow.recurses==Tryz.pinned.checked.prog.recurses 3)=true:=by kernel_rfl
theorem Pp:(Rows.hostFilesRow.named==Tryz.pinned.checked.prog.varsNamed 3)=true:=by kernel_rfl
theorem SR:joinedFacts Tryz.pinned.checked.prog 3 f3 Rows.hostFilesSpec Rows.hostFilesRow=true:=by unfold joinedFacts;rw[Pj,Pk,Pm,Pn,Po,Pp];kernel_rfl
theorem SS:f3.isInstance Tryz.pinned.checked.prog Rows.hostFilesRow.origin Rows.hostFilesRow.targs:=of_decide_eq_true (by kernel_rfl)
theorem SU:f3.isWrapper Tryz.pinned.checked.prog Rows.hostFilesRow.wrapper Rows.hostFilesRow.mainSum:=by unfold Func.isWrapper;first|(rw[if_pos fJ];kernel_rfl)|(rw[if_neg fJ];exact⟨I,I⟩)
theorem Ks:Rows.hostFilesRow.holds Tryz.pinned (OpenSpec.ofChange Rows.hostFilesSpec):=
 OpenClaim.holds_of_wide 3 f3 I I I I I I I ⟨I,I,I,I,I⟩ I I I I I SP func3 SR SS SU (fun os started H enc _=>GH os started H enc)
theorem hostFiles_proved:Rows.HostFilesSaid:=Ks
#print axioms hostFiles_proved
end Go.Proofs.YtakkipnmpmobbaaGreat
