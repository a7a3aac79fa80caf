/-
  HostEnds:for every input the law returns true,and each argument reads afterwards as it read before. No condition.
-/
import Derived.Test.YtakkipnmpmobbaaGreatOpenHq
import Derived.Test.YtakkipnmpmobbaaGreatHx3q
namespace Go.Proofs.YtakkipnmpmobbaaGreat
open _root_.Go.Proofs.Tryz
open Go.ChangeShapes Go.WideShapes Go.ChangeAt Go.RowKit
open Go.ChangeMaps (open_string shut_string)
set_option linter.unusedVariables false
set_option maxRecDepth 100000 in
theorem Hw(os:Os)(started:os.Started)(H:Type)(enc:TypeId×Value->H):
  ReturnsInHanded {} Tryz.checked os 4 .any (Rows.hostEndsSpec.pre6 enc prog f4 Rows.hostEndsRow.domain false) (Rows.hostEndsSpec.post enc prog f4 false true false false):=by
 refine returnsInHanded_of_change_sized (C:=Tryz.checked) own started (by kernel_rfl) func4
  (ChangeSpec.witness6 (enc:=enc) (C:=Tryz.checked) false ⟨#[],#[.agg #[.slice none 0 0,.slice none 0 0,.slice none 0 0,.int .i64 0,.int .i64 0,.int .i64 0,.bool false,.bool false,.bool false,.bool false,.slice none 0 0,.slice none 0 0,.slice none 0 0,.string ⟨#[]⟩,.int .i64 0,.int .i64 0,.slice none 0 0],.slice none 0 0],[]⟩ 8 (by kernel_rfl) (by kernel_rfl) (by kernel_rfl) (by kernel_rfl)) ?_
 intro W base args ds gs before akF hW aBM ama _;have akG:∀(j:Nat) t v,f4.params[j]?=some t->args[j]?=some v->Value.okWide prog W .any base t v:=akF;have hW':=hW;obtain⟨p,q,hA0,hV,rfl,hfz,hnd⟩:=hW;have hA:DataW.TrodAll enc prog W 0 (fun _=>true) true f4.params.toList args.toList ds p:=hA0;rw[Tryz.params4]at hA akG;obtain⟨v0,vs0,d0,ds0,p0,q0,avy,rfl,rfl,h0,r0⟩:=trodAll_cons hA;obtain⟨v1,vs1,d1,ds1,p1,q1,rfl,rfl,rfl,U,r1⟩:=trodAll_cons r0;obtain⟨rfl,rfl,rfl⟩:=trodAll_nil r1;obtain rfl:args= #[v0,v1]:=by cases args;simp_all
 obtain⟨rfl,rfl⟩:=trodVars_none hV;have lg0:GK prog 58 d0:=lD;have lg1:GK prog 59 d1:=lC;clear ama;have k0:=h0;have lt0:∀x∈p0,x.block<W.heap.size:=jF;obtain⟨cs0,e0,_⟩:=okWide_struct underlying58 (akG 0 58 v0 I I);subst e0;obtain⟨rc,r,Ah,As,Asv,ch,cS,csv,hs,ss,vs,s,fam,turn,Ad,cd,ds,hcT,hR,hH,hSr,hSv,hhl,hsl,hvl,hD⟩:=SB (sj.of h0 lg0);have ec0:cs0=(Fu (rc++[Value.slice Ah hs.length ch,Value.slice As ss.length cS,Value.slice Asv vs.length csv]) s fam turn (.slice Ad ds.length cd)).toArray:=Array.toList_inj.1 (by simpa[Value.cells]using hcT);subst ec0;have k1:=U;have lt1:∀x∈p1,x.block<W.heap.size:=jE;obtain⟨b1,n1,c1,e1⟩:=okWide_slice underlying59 (akG 1 59 v1 I I);subst e1;obtain⟨A1,q1,l1,aiB,hT1,hl1⟩:=aa5 (sj.of U lg1);simp[Value.cells]at aiB;obtain⟨rfl,rfl,rfl⟩:=aiB;clear hA0 akF;refine(Ph Ah As Asv Ad ch cS csv cd rc r hs ss vs s fam turn ds _ _ l1 W hR hH hSr hSv hhl hsl hvl hD hT1 hl1).mono fun e W' ⟨he,bel⟩=>?_
 subst he;exact⟨_,I,_,_,_,[],_,[],hW',trodAll_mk1 (shut_bool underlying4 _),(trodAll_cons_mk (Below.trod laidOut (by kernel_rfl) (of_decide_eq_true (by kernel_rfl)) k0 bel lt0) (trodAll_cons_mk (Below.trod laidOut (by kernel_rfl) (of_decide_eq_true (by kernel_rfl)) k1 bel lt1) trodAll_mk0)),I,bel.frame _,fun h=>by cases h⟩
theorem U3:Tryz.pinned.checked.prog.funcNamed Rows.hostEndsRow.func=some 4:=by kernel_rfl
theorem SC:laidOutB Tryz.pinned.checked.prog=true:=by kernel_rfl
theorem SG:mapsRowed Tryz.pinned.checked.prog=true:=by kernel_rfl
theorem SI:(Rows.hostEndsRow.inPlace==Tryz.pinned.checked.prog.inPlace 4)=true:=by kernel_rfl
theorem SJ:(Rows.hostEndsRow.unfollowed==Tryz.pinned.checked.prog.unfollowed 4)=true:=by kernel_rfl
theorem SK:(Rows.hostEndsRow.recurses==Tryz.pinned.checked.prog.recurses 4)=true:=by kernel_rfl
theorem SO:(Rows.hostEndsRow.named==Tryz.pinned.checked.prog.varsNamed 4)=true:=by kernel_rfl
theorem U4:joinedFacts Tryz.pinned.checked.prog 4 f4 Rows.hostEndsSpec Rows.hostEndsRow=true:=by unfold joinedFacts;rw[SC,SG,SI,SJ,SK,SO];kernel_rfl
theorem U5:f4.isInstance Tryz.pinned.checked.prog Rows.hostEndsRow.origin Rows.hostEndsRow.targs:=of_decide_eq_true (by kernel_rfl)
theorem U6:f4.isWrapper Tryz.pinned.checked.prog Rows.hostEndsRow.wrapper Rows.hostEndsRow.mainSum:=by unfold Func.isWrapper;first|(rw[if_pos fJ];kernel_rfl)|(rw[if_neg fJ];exact⟨I,I⟩)
theorem KV:Rows.hostEndsRow.holds Tryz.pinned (OpenSpec.ofChange Rows.hostEndsSpec):=
 OpenClaim.holds_of_wide 4 f4 I I I I I I I ⟨I,I,I,I,I⟩ I I I I I U3 func4 U4 U5 U6 (fun os started H enc _=>Hw os started H enc)
theorem hostEnds_proved:Rows.HostEndsSaid:=KV
#print axioms hostEnds_proved
end Go.Proofs.YtakkipnmpmobbaaGreat
