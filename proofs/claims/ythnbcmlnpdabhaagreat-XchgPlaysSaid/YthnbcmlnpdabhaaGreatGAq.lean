/-
  The common words of this seat's proofs:what a call comes to,and how memory is kept.
-/
import Derived.Test.YthnbcmlnpdabhaaGreatRows
import Derived.WalkKit
import Derived.WalkSpells
import Derived.WalkLawsBesides
import Derived.Deep.QuietTactic
import Derived.BigQuiet
import Derived.Lib.Hide
import Derived.Handy
import Derived.Deep.RegionHeld3
import Derived.StillTailTactics
import Derived.Deep.LoopGhost
import Derived.Deep.RegionLaw
import Derived.Deep.DeepCutAuto
import Derived.Deep.Slices
import Derived.Maps.AppendAt
import Derived.Deep.AppendLies
import Derived.Lib.BufferWrite
import Derived.Laws.CopyOwn
namespace Go.Proofs.YthnbcmlnpdabhaaGreat
variable {v u:Value} {w w' a:World} {P:Program} {B g:Nat} {ops:Array Oper} {rest:List Oper} {o:Oper} {m:List UInt8} {t:TypeId} {cs:List Value}
theorem J{α:Sort _}{a:α}:a=a:=rfl
section
variable {p:Prop}
theorem ap(h:p:=by simp):p:=h
theorem aq(h:p:=by simpa using h):p:=h
theorem ar(h:p:=by unfold hw;split<;>(try split)<;>omega):p:=h
theorem aw(h:p:=by first|rfl|(simp[uA];done)):p:=h
theorem ax(h:p:=by go_grown):p:=h
theorem az(h:p:=by decide):p:=h
theorem aA(h:p:=by simp;omega):p:=h
theorem I(h:p:=by omega):p:=h
theorem aC(h:p:=by rw[Ig _ _ _ U];exact X):p:=h
theorem aD(h:p:=by simp at hl⊢;omega):p:=h
theorem aE(h:p:=by rw[hl];exact hi):p:=h
theorem aF(h:p:=by simpa using Z.there o sub.length hn):p:=h
theorem aG(h:p:=by simpa using hi):p:=h
theorem aH(h:p:=by simp[World.setCell]):p:=h
theorem aI(h:p:=by simp[v9];omega):p:=h
theorem aJ(h:p:=by rw[xK];omega):p:=h
theorem aK(h:p:=by simp only[maxLen];omega):p:=h
theorem aL(h:p:=by unfold Program.fieldsOf;rw[underlying24]):p:=h
theorem aM(h:p:=by simpa using Z):p:=h
theorem aN(h:p:=by simp[Value.ownBlock];omega):p:=h
theorem aO(h:p:=by rfl):p:=h
theorem aP(h:p:=by simp[Value.oneCell']):p:=h
theorem aQ(h:p:=by intro k z;injection z with z;omega):p:=h
theorem aR(h:p:=by have:=hR.lt;omega):p:=h
theorem aS(h:p:=by simp[go_sem]):p:=h
theorem aT(h:p:=by have:=hB.size;simp;omega):p:=h
theorem aU(h:p:=by have:=hB2.size;simp;omega):p:=h
theorem aV(h:p:=by simp only[maxLen,List.length_drop];omega):p:=h
theorem aW(h:p:=by assumption):p:=h
theorem aX(h:p:=by rw[HR.out,HRN.out,List.append_nil]):p:=h
theorem aY(h:p:=by simp only[xK,List.length_singleton];omega):p:=h
theorem aZ(h:p:=by simp only[xK,List.length_append,List.length_singleton];omega):p:=h
theorem bc(h:p:=by have:=hA.2.2.1;omega):p:=h
theorem bd(h:p:=by simp[vi,h.2]):p:=h
theorem bf(h:p:=by simp[h0]):p:=h
theorem bh(h:p:=by simpa using z):p:=h
theorem bi(h:p:=by simp[U,X,h3]):p:=h
theorem bj(h:p:=by rw[FM];omega):p:=h
theorem bm(h:p:=by rw[hl];exact uU):p:=h
theorem bp(h:p:=by go_simp):p:=h
theorem bu(h:p:=by rw[L4l];exact uU):p:=h
theorem bB(h:p:=by have:=hN.2.2.1;omega):p:=h
theorem bC(h:p:=by simp[U]):p:=h
theorem bD(h:p:=by obtain⟨_,_,_,_,_,_,rfl,hr,_⟩:=h;exact fun j hj=>adT hr j hj):p:=h
theorem bE(h:p:=by rw[hS];exact Fh hr):p:=h
theorem bF(h:p:=by rw[HO.out];simp):p:=h
theorem bG(h:p:=by rw[List.length_drop];omega):p:=h
theorem bH(h:p:=by rw[List.length_drop,H12.out];omega):p:=h
theorem bI(h:p:=by rw[hS];rfl):p:=h
theorem bJ(h:p:=by rw[hds];rfl):p:=h
theorem bK(h:p:=by rw[h]):p:=h
theorem bL(h:p:=by simp[vW]):p:=h
theorem bQ(h:p:=by rw[show Sm.length=33 from vA ⟨J,J⟩];omega):p:=h
theorem bS(h:p:=by rw[zc,show uX.length=14 from J];omega):p:=h
theorem bU(h:p:=by have:=b4.size;simp;omega):p:=h
theorem bV(h:p:=by simpa using hgn.symm):p:=h
theorem bX(h:p:=by simpa using hgn):p:=h
theorem bY(h:p:=by simp only[List.length_set];omega):p:=h
theorem bZ(h:p:=by rw[hL];exact wR J J J):p:=h
theorem cf(h:p:=by rw[ll];exact uU):p:=h
theorem cC(h:p:=by rw[hd];simpa using hn):p:=h
theorem cD(h:p:=by rw[FM];exact uU):p:=h
theorem cE(h:p:=by rw[hL];exact wR J nv.one J):p:=h
theorem cF(h:p:=by rw[hn];rfl):p:=h
theorem cG(h:p:=by simpa using hn):p:=h
theorem cH(h:p:=by simp[qZ]):p:=h
theorem cI(h:p:=by rw[hcl];exact uU):p:=h
theorem cJ(h:p:=by rw[lMz];exact uU):p:=h
theorem cK(h:p:=by rw[adh];decide):p:=h
theorem cL(h:p:=by rw[HK.out];rfl):p:=h
theorem cM(h:p:=by rw[hcl];exact Cf):p:=h
theorem cN(h:p:=by rw[apV,hcl];decide):p:=h
theorem cO(h:p:=by have:=g1.size;simp at this;omega):p:=h
theorem cP(h:p:=by have:=H2.size;simp;omega):p:=h
theorem cQ(h:p:=by unfold Sy;decide):p:=h
theorem cR(h:p:=by simp[PV]):p:=h
theorem cT(h:p:=by have:=Fq L.us n hn hn2;rwa[hwu,Int.tmod_eq_emod_of_nonneg hu0]at this):p:=h
theorem cU(h:p:=by rw[hcl];exact Ov):p:=h
theorem cV(h:p:=by rw[h.hS];rfl):p:=h
theorem cW(h:p:=by have:=h.hN.2.2.1;omega):p:=h
theorem cX(h:p:=by unfold Dx;rfl):p:=h
theorem cY(h:p:=by have:=h.hT.2.2.1;omega):p:=h
theorem cZ(h:p:=by rw[ZL];exact uU):p:=h
theorem db(h:p:=by have:=ty.size;simp;omega):p:=h
theorem dc(h:p:=by rw[h.hS];exact CG h.hr):p:=h
theorem dd(h:p:=by rw[AL];exact wD):p:=h
theorem df(h:p:=by rw[ckl];exact uU):p:=h
theorem dg(h:p:=by have:=HBr.size;simp;omega):p:=h
theorem dh(h:p:=by simp only[List.length_take];omega):p:=h
theorem di(h:p:=by rw[<-PL.eq];exact hl):p:=h
theorem dv(h:p:=by unfold vU.Cq;simp):p:=h
theorem dx(h:p:=by first|rfl|(show Value.pointer _=_;simp)):p:=h
theorem dz(h:p:=by rw[<-hO.out];exact ab9 h12 hl):p:=h
theorem dA(h:p:=by rw[zc];decide):p:=h
theorem dB(h:p:=by simp[HAL.out]):p:=h
theorem dC(h:p:=by rw[lL];exact uW):p:=h
theorem dD(h:p:=by simp only[List.length_append,uy];omega):p:=h
theorem dE(h:p:=by simp[e1]):p:=h
theorem dF(h:p:=by simp only[List.length_append];omega):p:=h
theorem dG(h:p:=by simp[l]):p:=h
theorem dH(h:p:=by have:=hB1.size;simp;omega):p:=h
theorem dI(h:p:=by rw[y.sv.uT h];omega):p:=h
theorem dJ(h:p:=by rw[hdl,zF];omega):p:=h
theorem dK(h:p:=by rw[hdl];exact uW):p:=h
theorem dL(h:p:=by have:=zF;omega):p:=h
theorem dM(h:p:=by rw[hO];simp[xh,hr]):p:=h
theorem dN(h:p:=by rw[h.hS];exact Qe h.ip):p:=h
theorem dO(h:p:=by rw[<-hP.out];rfl):p:=h
theorem dP(h:p:=by rw[PP.out,if_neg (fun h=>z h.1)]):p:=h
theorem dQ(h:p:=by rw[PP.out,if_neg (fun h=>hf h.2.1)]):p:=h
theorem dR(h:p:=by rw[PP.out,if_neg (fun h=>hp h.2.2.1)]):p:=h
theorem dS(h:p:=by rw[PP.out,if_neg (fun h=>ho h.2.2.2)]):p:=h
theorem dT(h:p:=by rw[PP.out,if_pos ⟨z,hf,hp,ho⟩]):p:=h
theorem dU(h:p:=by simp only[ne_eq,Option.some.injEq];omega):p:=h
theorem dV(h:p:=by simp[v9]):p:=h
theorem dW(h:p:=by simp[wT]):p:=h
theorem dX(h:p:=by rw[wU h];omega):p:=h
theorem dY(h:p:=by rw[wU h];exact hi):p:=h
theorem dZ(h:p:=by cases h):p:=h
theorem ea(h:p:=by rw[zc];exact uW):p:=h
theorem ee(h:p:=by simp[Act.eval,Act.put]):p:=h
theorem eg(h:p:=by rw[<-hR.out];unfold zw;rw[if_pos he]):p:=h
theorem eh(h:p:=by rw[<-hR.out];unfold vM;rw[if_pos (.inl hs)]):p:=h
theorem ei(h:p:=by rw[<-hR.out];unfold vM;rw[if_pos (.inr hpo)]):p:=h
theorem ej(h:p:=by rw[<-hR.out];unfold vM;rw[if_neg H0.out,if_pos hk3,if_pos hop]):p:=h
theorem en(h:p:=by rw[hop];decide):p:=h
theorem eo(h:p:=by rw[<-hR.out];unfold vM;rw[if_neg H0.out,if_neg hk3,if_neg hk4,if_pos hk5]):p:=h
theorem et(h:p:=by rw[<-hR.out];unfold vM;rw[if_neg H0.out,if_neg hk3,if_neg hk4,if_neg hk5]):p:=h
theorem eu(h:p:=by rw[hfl];exact aei):p:=h
theorem ew(h:p:=by rw[hl1];exact AK):p:=h
theorem ey(h:p:=by first|(simp;done)|(simp;omega)):p:=h
theorem eC(h:p:=by rw[hS.out];rfl):p:=h
theorem eD(h:p:=by rw[hel];exact Cf):p:=h
theorem eE(h:p:=by rw[hel];exact Ov):p:=h
theorem eF(h:p:=by rw[hRl];exact AK):p:=h
theorem eG(h:p:=by unfold zW;exact zT aB):p:=h
theorem eH(h:p:=by rw[hcl];exact Tt):p:=h
theorem eI(h:p:=by rw[<-B1'.cell 1];exact d1):p:=h
theorem eJ(h:p:=by rw[SF.out,IR.out,decide_eq_false ht];simp):p:=h
theorem eL(h:p:=by rw[hfl];simp):p:=h
theorem eM(h:p:=by rw[aeH.out];rfl):p:=h
theorem eO(h:p:=by rw[<-HK.out,hV.out]):p:=h
theorem eP(h:p:=by rw[<-HV.out];rfl):p:=h
theorem eQ(h:p:=by show x.Tu<=_;omega):p:=h
theorem eR(h:p:=by show L.us+1<=1000000000;omega):p:=h
theorem eS(h:p:=by rw[e1.out];exact Cf):p:=h
theorem eU(h:p:=by rw[hql];exact Dy):p:=h
theorem eV(h:p:=by rw[hOl];exact Cb):p:=h
theorem eW(h:p:=by rw[FV.out];rfl):p:=h
theorem eX(h:p:=by simp;exact h37):p:=h
theorem eY(h:p:=by rw[l15];exact Cb):p:=h
theorem eZ(h:p:=by rw[Ca U hq];omega):p:=h
theorem ff(h:p:=by rw[hMl];omega):p:=h
theorem fg(h:p:=by rw[HT.out,if_pos v1]):p:=h
theorem fh(h:p:=by rw[HT.out,if_neg v1,if_pos v2]):p:=h
theorem fi(h:p:=by rw[HT.out,if_neg v1,if_neg v2,if_pos v3]):p:=h
theorem fj(h:p:=by rw[HT.out,if_neg v1,if_neg v2,if_neg v3,if_pos v5]):p:=h
theorem fk(h:p:=by rw[HT.out,if_neg v1,if_neg v2,if_neg v3,if_neg v5]):p:=h
theorem fl(h:p:=by rw[hdn];decide):p:=h
theorem fo(h:p:=by intro e;injection e with e;omega):p:=h
theorem ft(h:p:=by rw[HT.out,if_pos s1]):p:=h
theorem fw(h:p:=by go_simp;exact CF.out _ _ _):p:=h
theorem fx(h:p:=by rw[anl,zl0];decide):p:=h
theorem fy(h:p:=by rw[anl];exact Cb):p:=h
theorem fA(h:p:=by rw[<-hR.out,htl.out,hx0];rfl):p:=h
theorem fB(h:p:=by rw[HV.out];rfl):p:=h
theorem fC(h:p:=by simp[EQ]):p:=h
theorem fD(h:p:=by rw[List.length_set];omega):p:=h
theorem fE(h:p:=by rw[FM,hcl];omega):p:=h
theorem fF(h:p:=by rw[zF];omega):p:=h
theorem fG(h:p:=by intro e;injection e with e;exact hA hp _ U e):p:=h
theorem fH(h:p:=by rw[hel];exact uW):p:=h
theorem fI(h:p:=by rw[HF.out,hf];rfl):p:=h
theorem fJ(h:p:=by rw[hql];exact Dz):p:=h
theorem fK(h:p:=by change Result.ok (Next.value (Value.bool (((lg:Nat):Int)==0))) V=_;rw[hbz.out]):p:=h
theorem fL(h:p:=by change Result.ok (Next.value (Value.bool (((x.lg:Nat):Int)==2))) V=_;rw[as7.out]):p:=h
theorem fM(h:p:=by change Result.ok (Next.value (Value.bool (((x.lg:Nat):Int)==0))) V=_;rw[hbz.out]):p:=h
theorem fN(h:p:=by intro e;injection e with e;exact gm e):p:=h
theorem fO(h:p:=by rw[JE r1 J J hq5 J];omega):p:=h
theorem fP(h:p:=by simp only[List.length_nil];omega):p:=h
theorem fQ(h:p:=by have:=HH4.out;rw[hD]at this;exact this.d rd.1):p:=h
theorem fR(h:p:=by rw[Z,h3]):p:=h
theorem fS(h:p:=by rw[hql];decide):p:=h
theorem fT(h:p:=by rw[AH];decide):p:=h
theorem fU(h:p:=by rw[hzl,AH];decide):p:=h
theorem fV(h:p:=by show(0:Nat)<=999999990;omega):p:=h
theorem fW(h:p:=by show ds.length<=17592186044416;omega):p:=h
theorem fX(h:p:=by rw[hel];exact MR):p:=h
theorem fY(h:p:=by simpa[Value.cells]using hcT):p:=h
theorem fZ(h:p:=by decide+axi):p:=h
theorem gh(h:p:=by rw[zl0];exact Cb):p:=h
theorem gi(h:p:=by rw[List.take_of_length_le I]):p:=h
theorem gj(h:p:=by rw[<-hR.out];unfold vM;rw[if_neg H0.out,if_pos hk3,if_neg en]):p:=h
theorem gk(h:p:=by rw[<-hR.out];unfold vM;rw[if_neg H0.out,if_neg hk3,if_pos hk4,if_neg en]):p:=h
theorem gp(h:p:=by go_num):p:=h
theorem gu(h:p:=by simp only;omega):p:=h
theorem gv(h:p:=by simpa using X):p:=h
theorem gA(h:p:=by simpa using adU):p:=h
theorem gB(h:p:=by simp<;>omega):p:=h
theorem gC(h:p:=by show 1<=x.left-1;omega):p:=h
theorem gD(h:p:=by show x.left-1<=x.cl;omega):p:=h
theorem gE(h:p:=by show tl.length<=1000;omega):p:=h
theorem gF(h:p:=by exact(Below.refl _ _).alloc (Nat.le_refl _) _):p:=h
theorem gG(h:p:=by exact⟨_,J⟩):p:=h
theorem gH(h:p:=by obtain⟨_,_,_,_,_,_,rfl,hr,_⟩:=h;rfl):p:=h
theorem gI(h:p:=by obtain⟨_,_,_,_,_,_,rfl,hr,_⟩:=h;exact vA hr):p:=h
theorem gJ(h:p:=by exact((Below.refl _ _).alloc (Nat.le_refl _) _).alloc ap _):p:=h
theorem gK(h:p:=by exact uq ((((Below.refl _ _).alloc (Nat.le_refl _) _).alloc ap _).alloc aA _) hg3 aA I):p:=h
theorem gL(h:p:=by exact(F.wE _ _ [.int .i64 c0,.int .i64 c1,.int .i64 c2,.int .i64 c3] _ ap).G b1 ap):p:=h
theorem gM(h:p:=by exact fun x w=>by simp[part,isAgg,run_underlying underlying4,Hd.ww]):p:=h
theorem gN(h:p:=by exact xx.vj (w:=wr.drew) (oQ.G (Below.refl _ _).drew) g3 (F.drew R) az az):p:=h
theorem gO(h:p:=by exact uq (w:=wr.drew) bR.drew g3 bR.size I):p:=h
theorem gP(h:p:=by exact⟨_,Y J⟩):p:=h
theorem gQ(h:p:=by rw[List.drop_of_length_le bj,List.append_nil]at hb3;exact hb3):p:=h
theorem gR(h:p:=by exact⟨An,cn,At,ct,Am,cm,h.hS,h.hr,h.hN,h.hT,h.hM,h.agn⟩):p:=h
theorem gS(h:p:=by exact Y (fun w' K=>⟨uz,v,uz,hL,hwf,by rw[hr];exact AB.nil _,by rw[hr];exact nv.uH K,by rw[hr];exact AB.nil _,by rw[hr];simp[RR.zero]⟩)):p:=h
theorem gT(h:p:=by unfold Addr.add;split<;>simp_all):p:=h
theorem gU(h:p:=by first|exact B8|exact Ez B8 dL):p:=h
theorem gV(h:p:=by rw[IntKind.wrap_u64];exact Int.emod_eq_of_lt I I):p:=h
theorem gX(h:p:=by exact fun o1 o2=>((Below.refl _ _).alloc (Nat.le_refl _) _).alloc ap _):p:=h
theorem gY(h:p:=by unfold yT;rw[z];rfl):p:=h
theorem gZ(h:p:=by exact run_equalIn_int w 9998 _ _ _ _ _ underlying3):p:=h
theorem hH(h:p:=by exact uC (uM HW _) (uS (World.grownBy.refl _ _) _ _) (.inl J)):p:=h
theorem hI(h:p:=by unfold El;rw[z];rfl):p:=h
theorem hU(h:p:=by unfold yC;rw[z];rfl):p:=h
theorem ic(h:p:=by exact uq (ty.alloc ty.size _) hg3 db ty.size):p:=h
theorem ie(h:p:=by exact run_equalIn_bool w 9998 _ _ _ underlying4):p:=h
theorem ig(h:p:=by exact List.length_eq_zero_iff.1 I):p:=h
theorem ij(h:p:=by exact hW▸below_drewN HX _):p:=h
theorem ik(h:p:=by exact((F.wE _ 119 wm _ ap).alloc _).grown hg3 ap):p:=h
theorem il(h:p:=by simpa using hr0.out):p:=h
theorem im(h:p:=by exact((F.new w _ h.ww).alloc _).G b1 aA):p:=h
theorem io(h:p:=by exact HE.out.trans (if_pos az)):p:=h
theorem ir(h:p:=by exact fun o1 o2 o3 o4=>((((Below.refl _ _).alloc (Nat.le_refl _) _).alloc ap _).alloc aA _).alloc aA _):p:=h
theorem iu(h:p:=by exact Y (fun w' _=>by rw[<-hr];exact⟨uz,uz,uz,hL,hwf,by rw[hr];exact AB.nil _,by rw[hr];exact AB.nil _,by rw[hr];exact AB.nil _,by rw[hr];simp[EQ,RR.zero]⟩)):p:=h
theorem iw(h:p:=by exact uq (w:=wz.drew) HBz.drew gy HBz.size (Nat.le_refl _)):p:=h
theorem ix(h:p:=by exact uS (World.grownBy.refl _ _) _ _):p:=h
theorem iy(h:p:=by simpa[Hd.ok,and_assoc]using z):p:=h
theorem iz(h:p:=by exact decide_eq_false I):p:=h
theorem iA(h:p:=by simpa using U):p:=h
theorem iB(h:p:=by simpa using HE5.out):p:=h
theorem iC(h:p:=by exact((B0.alloc _).alloc _).grown hg3 aA):p:=h
theorem iD(h:p:=by rw[h.hS];exact vA h.hr):p:=h
theorem iE(h:p:=by simpa using he):p:=h
theorem iF(h:p:=by rw[hLL];simp only[List.length_set];exact ahb):p:=h
theorem iG(h:p:=by exact xx.Cm (v':=v5) hE oq4 S5 o5):p:=h
theorem iH(h:p:=by exact hW▸aeH.drewN _):p:=h
theorem iI(h:p:=by exact uq ((Below.refl _ _).alloc (Nat.le_refl _) _) hg4 ap (Nat.le_refl _)):p:=h
theorem iJ(h:p:=by exact Nat.lt_of_lt_of_le B0.lt b2.size):p:=h
theorem iK(h:p:=by rw[hS];exact zc _ _ _ _ _):p:=h
theorem iL(h:p:=by exact xO cV):p:=h
theorem iM(h:p:=by simpa using he0):p:=h
theorem iN(h:p:=by simpa[Value.ownBlock]using z):p:=h
theorem iO(h:p:=by exact uq HB hg6 HB.size I):p:=h
theorem iP(h:p:=by exact fun x w=>by simp[part,isAgg,run_underlying underlying3,Hd.ww]):p:=h
theorem iQ(h:p:=by exact(Below.refl _ _).drew):p:=h
theorem iR(h:p:=by simpa using hx):p:=h
theorem iS(h:p:=by simpa using hc):p:=h
theorem iT(h:p:=by rw[hr];exact⟨J,J⟩):p:=h
theorem iU(h:p:=by rw[X.hS];rfl):p:=h
theorem iV(h:p:=by exact(((Below.refl _ _).alloc (Nat.le_refl _) _).alloc ap _).alloc aA _):p:=h
theorem iW(h:p:=by exact⟨ahX.grown hg6 ap,ahW.grown hg6 ap⟩):p:=h
theorem iX(h:p:=by unfold Fs;rw[z];rfl):p:=h
theorem iY(h:p:=by rw[hS];exact vA hr):p:=h
theorem iZ(h:p:=by obtain⟨_,_,_,_,_,_,rfl,hr,_⟩:=hRR;rfl):p:=h
theorem ja(h:p:=by obtain⟨_,_,_,_,_,_,rfl,hr,_⟩:=hR;rfl):p:=h
theorem jc(h:p:=by simpa using h3):p:=h
theorem jd(h:p:=by simp[r.ad.uT h.1]):p:=h
theorem je(h:p:=by exact hW▸below_drewN hB nq):p:=h
theorem jf(h:p:=by exact wh R4 ow2 az g5):p:=h
theorem jg(h:p:=by simpa using hty):p:=h
theorem jh(h:p:=by rw[hce];exact vG.xW _):p:=h
theorem ji(h:p:=by exact⟨An,cn,none,0,none,0,J,⟨h16,J⟩,h.hN,xE.nil w,xE.nil w,by simp[vC,RR.zero]⟩):p:=h
theorem jj(h:p:=by rw[h.hS];exact wU h.ip):p:=h
theorem jk(h:p:=by exact IntWalk.i64_in _ I):p:=h
theorem jl(h:p:=by rw[<-HOF.out,decide_eq_false hcl];simp):p:=h
theorem jm(h:p:=by exact⟨An,cn,At,ct,none,0,J,⟨J,J⟩,h.hN,h.hT,xE.nil w,by simp[vC,RR.zero]⟩):p:=h
theorem jn(h:p:=by exact VU HG.out (Pv U HC.out)):p:=h
theorem jo(h:p:=by exact uq (HBr.alloc HBr.size _) hg3 dg HBr.size):p:=h
theorem jp(h:p:=by exact F.grown R5 g6 aA):p:=h
theorem jq(h:p:=by rw[<-HOF.out,decide_eq_false hty];rfl):p:=h
theorem jr(h:p:=by exact fun i hi=>(hD9 i hi).imp id (fun h=>by omega)):p:=h
theorem js(h:p:=by exact Y (fun w' _=>⟨uz,uz,uz,hL,⟨J,J⟩,AB.nil _,AB.nil _,AB.nil _,aA⟩)):p:=h
theorem jt(h:p:=by rw[wA];exact hs'):p:=h
theorem ju(h:p:=by exact uq ajd hg6 ajd.size I):p:=h
theorem jv(h:p:=by exact Mf hL hwf):p:=h
theorem jw(h:p:=by rw[<-hO.out,U7 hx,hqr,decide_eq_true hop,decide_eq_true hid];rfl):p:=h
theorem jx(h:p:=by simpa using hcl):p:=h
theorem jy(h:p:=by simp[zF]):p:=h
theorem jz(h:p:=by exact Y (fun V hV=>(B1.G hV B1.lt).wS 24 0 18 I _ underlying24 J Cf _ HCA.out)):p:=h
theorem jA(h:p:=by exact um ax aA b1):p:=h
theorem jB(h:p:=by simpa using h6):p:=h
theorem jC(h:p:=by exact ty.trans (Kr.1.mono ty.size)):p:=h
theorem jD(h:p:=by simp only[bne_iff_ne,ne_eq];omega):p:=h
theorem jE(h:p:=by rw[hM9,List.length_set];exact hcl):p:=h
theorem jF(h:p:=by exact uC (zN G7 _) g8 (.inr (fun k z=>by injection z with z;omega))):p:=h
theorem jG(h:p:=by exact Y (fun V hV=>(B3.G hV B3.lt).wS 28 10 3 I _ underlying28 J xu _ L10)):p:=h
theorem jH(h:p:=by rw[<-LS.out];simpa only[vG.Zr,List.append_assoc]using hb4):p:=h
theorem jI(h:p:=by rw[hce];exact vG.uT _ h2):p:=h
theorem jJ(h:p:=by exact Y (fun V hV=>(B3.G hV B3.lt).wS 69 0 10 I _ underlying69 J AK _ L0)):p:=h
theorem jK(h:p:=by unfold yL;rw[if_neg I,if_neg I,if_neg I,if_pos h,if_pos hn]):p:=h
theorem jL(h:p:=by exact hW▸k1.drewN nq):p:=h
theorem jM(h:p:=by exact hW▸k0.drewN nq):p:=h
theorem jN(h:p:=by exact fun o1 o2 o3=>(((Below.refl _ _).alloc (Nat.le_refl _) _).alloc ap _).alloc aA _):p:=h
theorem jO(h:p:=by rw[ajX];exact WK hst.ips _):p:=h
theorem jP(h:p:=by rw[<-hE];unfold yC;rcases z with z|z<;>rw[z]<;>rfl):p:=h
theorem jQ(h:p:=by have:=HAL.out;omega):p:=h
theorem jR(h:p:=by exact uq K g8 K.size hz):p:=h
theorem jS(h:p:=by exact(F.wE (w.alloc (.cells uX.toArray 50)) 142 [.int .i64 0] _ ap).G b1 ap):p:=h
theorem jT(h:p:=by exact Y (fun V hV=>uB underlying70 J ((B3.G hV B3.lt).M 14 L14))):p:=h
theorem jU(h:p:=by simp[hdl]):p:=h
theorem jV(h:p:=by exact FM):p:=h
theorem jW(h:p:=by exact fun x hx w=>by simp[part,isAgg,run_underlying underlying3,x.KB hx]):p:=h
theorem jX(h:p:=by exact Y (fun V hV=>uB underlying3 J ((B3.G hV B3.lt).M 13 L13))):p:=h
theorem jY(h:p:=by exact Y (fun V hV=>uB underlying3 J ((B1.G hV B1.lt).M 18 p18))):p:=h
theorem jZ(h:p:=by exact H5.grown g6 H5.size O5.base):p:=h
theorem j4(h:p:=by exact uq ((Below.refl _ _).alloc (Nat.le_refl _) _) g4 ap (Nat.le_refl _)):p:=h
theorem j8(h:p:=by exact uq ((Below.refl _ _).alloc (Nat.le_refl _) _) g3 ap (Nat.le_refl _)):p:=h
theorem j9(h:p:=by simpa using hne):p:=h
theorem kc(h:p:=by simpa[Value.ownBlock]using he):p:=h
theorem ke(h:p:=by obtain⟨_,_,_,_,_,_,rfl,hr,_⟩:=h;exact Jc hr):p:=h
theorem kh(h:p:=by obtain⟨_,_,_,_,_,_,rfl,hr,_⟩:=h;exact Jb hr):p:=h
theorem ki(h:p:=by obtain⟨_,_,_,_,_,_,rfl,hr,_⟩:=h;exact I9 hr):p:=h
theorem kj(h:p:=by obtain⟨_,_,_,_,_,_,rfl,hr,_⟩:=h;exact I8 hr):p:=h
theorem km(h:p:=by unfold vG.check;rw[if_neg hf,if_pos h6,if_pos (.inr hz2)]):p:=h
theorem ko(h:p:=by rw[<-ho];unfold xF;rw[X];simp only;rw[if_pos hq]):p:=h
theorem kp(h:p:=by rw[<-ho];unfold xF;rw[X];simp only;rw[if_neg hq]):p:=h
theorem kq(h:p:=by rw[<-hO.out];unfold zv;rw[decide_eq_false hop];simp):p:=h
theorem kr(h:p:=by rw[<-hO.out];unfold zv;rw[decide_eq_false hid];simp):p:=h
theorem kt(h:p:=by exact List.take_of_length_le (Nat.le_refl _)):p:=h
theorem ku(h:p:=by exact Y (fun hl=>by rw[KF pack hc di,<-PL.eq];exact⟨J,J⟩)):p:=h
theorem kw(h:p:=by unfold vG.check;rw[if_neg hf,if_pos h6,if_pos (.inl hz)]):p:=h
theorem kx(h:p:=by rw[<-HOF.out,decide_eq_true hty,decide_eq_true hcl];rfl):p:=h
theorem ky(h:p:=by exact Y (by rw[<-HV.out,if_neg I,if_neg r2,if_neg (fun h=>by omega)])):p:=h
theorem kz(h:p:=by exact hW▸below_drewN (Below.refl _ _) _):p:=h
theorem kA(h:p:=by exact Y (fun V hV=>hV.wS 42 0 22 I _ underlying42 J MR _ (wP I))):p:=h
theorem kB(h:p:=by exact B1'.grown hg3 aA):p:=h
theorem kC(h:p:=by simpa using hs):p:=h
theorem kD(h:p:=by simpa using h0):p:=h
theorem kE(h:p:=by rw[h.hS];exact BS h.hr):p:=h
theorem kG(h:p:=by exact fun x w=>by simp[part,isAgg,run_underlying underlying3,vG.cells]):p:=h
theorem kH(h:p:=by exact List.length_pos_iff.2 hne):p:=h
theorem kI(h:p:=by obtain⟨_,_,_,_,_,_,rfl,hr,_⟩:=h;exact hr.1):p:=h
theorem kJ(h:p:=by exact uC Gb gc (.inr (fun k z=>by injection z with z;omega))):p:=h
theorem kK(h:p:=by exact uC Ga gb (.inr (fun k z=>by injection z with z;omega))):p:=h
theorem kL(h:p:=by exact uC G9 ga (.inr (fun k z=>by injection z with z;omega))):p:=h
theorem kO(h:p:=by exact uC G8 g9 (.inr (fun k z=>by injection z with z;omega))):p:=h
theorem kP(h:p:=by exact fun V hV=>hV.wS 50 0 14 I _ underlying50 J uW _ (wP I)):p:=h
theorem kQ(h:p:=by unfold yT;rcases z with z|z<;>rw[z]<;>rfl):p:=h
theorem kR(h:p:=by obtain⟨m,hm⟩:=k1;exact DataW.trod_lt m _ _ _ hm):p:=h
theorem kS(h:p:=by obtain⟨m,hm⟩:=k0;exact DataW.trod_lt m _ _ _ hm):p:=h
theorem kU(h:p:=by unfold El;rcases z with z|z<;>rw[z]<;>rfl):p:=h
theorem kV(h:p:=by unfold vG.check;rw[if_neg hf,if_pos h6,if_neg I]):p:=h
theorem kW(h:p:=by exact decide_eq_false U):p:=h
theorem kX(h:p:=by exact um (w:=w.drew) (Below.refl _ _).drew (Nat.le_refl _) k1'):p:=h
theorem kY(h:p:=by rw[<-agp];simp;omega):p:=h
theorem kZ(h:p:=by rw[<-hM];simp):p:=h
theorem ld(h:p:=by rw[HMc.out,HMb.out,HMa.out,HM9.out,HCS.out];rfl):p:=h
theorem lh(h:p:=by exact Y (fun hl=>by rw[Gh pack hc di];exact⟨J,J⟩)):p:=h
theorem lj(h:p:=by exact F.wE _ 50 uX _ ap):p:=h
theorem lk(h:p:=by unfold yS;rw[if_pos h];simp[Py,wA]):p:=h
theorem lm(h:p:=by exact Y ⟨hX,hl5,I,I,fun i hi=>by have:=hD i hi;omega⟩):p:=h
theorem lr(h:p:=by exact(Gu (x:={x with left:=x.left-1}) hd).trans hr.symm):p:=h
theorem lx(h:p:=by rw[hL,hr];rfl):p:=h
theorem ly(h:p:=by exact decide_eq_true U):p:=h
theorem lz(h:p:=by unfold yL;rw[if_neg U,if_pos h,if_neg hn]):p:=h
theorem lC(h:p:=by rw[<-hX];exact(F.wE _ _ _ _ ap).alloc _):p:=h
theorem lD(h:p:=by simpa using hk1):p:=h
theorem lE(h:p:=by simp[Kk]at h;omega):p:=h
theorem lF(h:p:=by exact hW▸yv (uS (World.grownBy.refl _ _) 28 _)):p:=h
theorem lG(h:p:=by exact(hB.cell (p:=⟨ba,oa+k,none⟩) la).trans (xa k aB)):p:=h
theorem lH(h:p:=by unfold xU;rw[if_neg (by rw[hs];decide)]):p:=h
theorem lI(h:p:=by rw[<-HO.out,Nat.sub_self];exact Jf):p:=h
theorem lJ(h:p:=by exact⟨_,vt,vm,hMz,⟨hwf.1,hwf.2⟩,Nc,tc,uc,agn⟩):p:=h
theorem lK(h:p:=by rw[<-hO.out];unfold zv;rw[hqr];rfl):p:=h
theorem lM(h:p:=by exact um (w:=w4.drew) (below_drewN HB' 1) HB'.size b5):p:=h
theorem lN(h:p:=by exact((Below.refl W.heap.size W).drew).alloc (Nat.le_refl _) _):p:=h
theorem lO(h:p:=by exact uC G2 gf (.inr (fun k z=>xZ ow2 k z))):p:=h
theorem lP(h:p:=by unfold uQ;rw[if_neg (fun h=>z h.2)]):p:=h
theorem lQ(h:p:=by unfold uQ;rw[if_neg (fun h=>U h.1)]):p:=h
theorem lR(h:p:=by unfold xD;rw[U];simp only;rw[X]):p:=h
theorem lS(h:p:=by unfold vG.check;rw[if_neg hf,if_neg h6]):p:=h
theorem lT(h:p:=by simp[vX]):p:=h
theorem lU(h:p:=by simp[vU.Cq];omega):p:=h
theorem lV(h:p:=by exact Cy HG.out (VW U HC.out ahz hps HD.out hpb)):p:=h
theorem lW(h:p:=by exact uY.uH O5 (fun _ x=>x) (fun _ _ x=>x.uH hso)):p:=h
theorem lX(h:p:=by exact Nat.le_trans (z9 n) hs'):p:=h
theorem lY(h:p:=by unfold wW;rw[U];simp only;rw[X]):p:=h
theorem lZ(h:p:=by simp[maxLen];omega):p:=h
theorem l9(h:p:=by rw[<-KT,List.take_append_drop]):p:=h
theorem ma(h:p:=by rw[List.length_append,uy,hB]):p:=h
theorem mc(h:p:=by rw[List.length_append,uy,hA]):p:=h
theorem me(h:p:=by exact K.size):p:=h
theorem mf(h:p:=by exact fun k h=>by simpa using h):p:=h
theorem mg(h:p:=by exact fun W=>by rw[run_string_add_sum W _ _ aZ,KN]):p:=h
theorem mh(h:p:=by exact fun W=>by rw[run_string_add_sum W _ _ aY,KN]):p:=h
theorem mi(h:p:=by unfold uQ;rw[if_pos ⟨J,z⟩]):p:=h
theorem mj(h:p:=by simpa using(congrArg Prod.fst ha).symm):p:=h
theorem mn(h:p:=by exact hW▸(js2 hpl z (.int .u8 (a.toNat:Int))).drew):p:=h
theorem mo(h:p:=by congr 1):p:=h
theorem mr(h:p:=by unfold xN;rw[if_neg U,if_pos X]):p:=h
theorem mu(h:p:=by rw[<-hX];exact F.wE _ _ _ _ ap):p:=h
theorem mw(h:p:=by rw[List.drop_eq_getElem_cons I];rfl):p:=h
theorem mx(h:p:=by exact Y (fun k z=>MK.r _ dv)):p:=h
theorem my(h:p:=by unfold yL;rw[if_pos h,if_neg hn]):p:=h
theorem mz(h:p:=by rw[<-hO.out];exact X5 hll):p:=h
theorem mC(h:p:=by rw[hMc,List.length_set];exact lMb):p:=h
theorem mD(h:p:=by rw[hMb,List.length_set];exact lMa):p:=h
theorem mE(h:p:=by rw[hMa,List.length_set];exact lM9):p:=h
theorem mF(h:p:=by rw[h.hS];exact zc _ _ _ _ _):p:=h
theorem mG(h:p:=by exact hW▸wV.drew _ _ (wV.set z 28 _ _ _ hc)):p:=h
theorem mH(h:p:=by exact Cy HG.out (VV U HC.out h0 h63 hs hz)):p:=h
theorem mI(h:p:=by exact List.length_filter_le _ _):p:=h
theorem mJ(h:p:=by cases tc<;>cases conn<;>simp_all):p:=h
theorem mK(h:p:=by simpa using h4.ne):p:=h
theorem mL(h:p:=by rw[<-ho];unfold xF;rw[X]):p:=h
theorem mM(h:p:=by exact decide_eq_true I):p:=h
theorem mN(h:p:=by exact Y ⟨_,vt,vm,hS,hwf,hnm,htg,hml,aW⟩):p:=h
theorem mO(h:p:=by exact Y (fun W=>by rw[hce];exact MS.out _ h2 W)):p:=h
theorem mP(h:p:=by cases abo<;>simp[vW,vU.Cq]):p:=h
theorem mQ(h:p:=by simpa[Addr.add]using Pz h00):p:=h
theorem mR(h:p:=by rw[<-ht,List.take_append_drop]):p:=h
theorem mS(h:p:=by exact hf.zq K K.size (fun i hi h=>by omega)):p:=h
theorem mT(h:p:=by exact Cy HG.out (Rv U HC.out h0 h63 hs)):p:=h
theorem mU(h:p:=by exact Cy HG.out (NR U HC.out ahz hps)):p:=h
theorem mV(h:p:=by exact u7.Cm (v:=.slice none 0 0) hE OW2 S2 of):p:=h
theorem mW(h:p:=by exact Int.le_trans hl2 hst.to2):p:=h
theorem mX(h:p:=by rw[isv];exact WK hst.ips _):p:=h
theorem mY(h:p:=by unfold vG.check;rw[if_pos hf]):p:=h
theorem mZ(h:p:=by exact run_equalIn_int w 9997 _ _ _ _ _ underlying3):p:=h
theorem m5(h:p:=by exact Y (fun hf=>Kw aB HN.out hf)):p:=h
theorem m6(h:p:=by unfold Lt.get;rw[dif_pos aB]):p:=h
theorem m8(h:p:=by unfold Lt.get;rw[dif_neg aB]):p:=h
theorem nb(h:p:=by simpa using hin):p:=h
theorem nc(h:p:=by simpa using hck):p:=h
theorem nf(h:p:=by simpa[World.setCell]using hs3):p:=h
theorem ng(h:p:=by simpa[Value.ownBlock]using hv):p:=h
theorem nh(h:p:=by rw[hd];exact UInt8.toNat_lt _):p:=h
theorem ni(h:p:=by rw[hc];exact UInt8.toNat_lt _):p:=h
theorem np(h:p:=by rw[U.hS];exact zd h2 4):p:=h
theorem nw(h:p:=by rw[U.hS];exact zd h2 3):p:=h
theorem nx(h:p:=by rw[U.hS];exact zd h2 2):p:=h
theorem ny(h:p:=by rw[U.hS];exact zd h2 1):p:=h
theorem nA(h:p:=by rw[h.hS];exact zd h.ip 0):p:=h
theorem nB(h:p:=by exact Cy HG.out (Zb U HC.out h63 ahz)):p:=h
theorem nC(h:p:=by exact Y (fun hf=>MC aB HN.out hf)):p:=h
theorem nD(h:p:=by rw[<-hZ.out];exact Qw):p:=h
theorem nF(h:p:=by rw[<-hQ.out];exact Qw):p:=h
theorem nG(h:p:=by exact Hi (P:=prog) (i:=1) akO aO aO):p:=h
theorem nH(h:p:=by exact Hi (P:=prog) (i:=0) akO aO aO):p:=h
theorem nI(h:p:=by exact hf 1 _ J):p:=h
theorem nJ(h:p:=by exact hf 0 _ J):p:=h
theorem nK(h:p:=by exact hFq.zq kl ap (fun i hi h=>by omega)):p:=h
theorem nL(h:p:=by exact Y J):p:=h
theorem nM(h:p:=by simpa using hz):p:=h
theorem nN(h:p:=by simpa using hy):p:=h
theorem nO(h:p:=by simpa using ht):p:=h
theorem nP(h:p:=by simpa using hf):p:=h
theorem nQ(h:p:=by simpa using h5):p:=h
theorem nR(h:p:=by simp[hl]):p:=h
theorem nS(h:p:=by rw[hx0];exact Nat.zero_le _):p:=h
theorem nT(h:p:=by rw[h.hS];exact wU h2):p:=h
theorem nU(h:p:=by rw[List.getElem_append_left]):p:=h
theorem nV(h:p:=by rcases h with h|h<;>omega):p:=h
theorem nW(h:p:=by have:=z9 q.name;omega):p:=h
theorem nX(h:p:=by exact((F.new w 50 uX).alloc _).G b1 aA):p:=h
theorem nY(h:p:=by unfold JM;rw[hLA,age]):p:=h
theorem nZ(h:p:=by unfold xU;rw[if_pos hs]):p:=h
theorem n6(h:p:=by rw[IntKind.wrap_u64];omega):p:=h
theorem n8(h:p:=by exact Y (fun x h=>ab2 (hO.out.trans h))):p:=h
theorem og(h:p:=by unfold xN;rw[if_pos U]):p:=h
theorem oh(h:p:=by rw[Fx];exact hb3):p:=h
theorem oi(h:p:=by rw[hx0];rfl):p:=h
theorem oj(h:p:=by rw[hvt];rfl):p:=h
theorem ol(h:p:=by rw[hcl];rfl):p:=h
theorem om(h:p:=by rw[hce];exact KG h2):p:=h
theorem oo(h:p:=by rw[DE.out,hE,if_pos hjl]):p:=h
theorem ot(h:p:=by rw[DE.out,hE,if_neg hjl]):p:=h
theorem ox(h:p:=by have:=YQ width;omega):p:=h
theorem oy(h:p:=by exact fun W hW=>(hW.cell atj).trans ag5):p:=h
theorem oz(h:p:=by exact xO (x.KB hx)):p:=h
theorem oB(h:p:=by rw[hS];exact I7 hr):p:=h
theorem oC(h:p:=by rw[hS];exact BS hr):p:=h
theorem oD(h:p:=by rw[hce];exact ab5 _):p:=h
theorem oE(h:p:=by rw[hL];rfl):p:=h
theorem oF(h:p:=by exact Cy HG.out (by simp[xB,U])):p:=h
theorem oG(h:p:=by simp[vW]at hi;omega):p:=h
theorem oH(h:p:=by rw[HQ.out,wA]):p:=h
theorem oI(h:p:=by exact Y (fun h=>by rw[HR.out,h];rfl)):p:=h
theorem oJ(h:p:=by exact(F.wE _ 42 (yj e) _ ap).alloc _):p:=h
theorem oK(h:p:=by simp at hn;simp;omega):p:=h
theorem oL(h:p:=by exact Ez B8 dL):p:=h
theorem oM(h:p:=by rw[<-HOF.out];simp):p:=h
theorem oN(h:p:=by rw[hE.out,if_neg hx]):p:=h
theorem oO(h:p:=by have:=hst.trl;omega):p:=h
theorem oP(h:p:=by exact hf 2 _ J):p:=h
theorem oT(h:p:=by exact K.alloc K.size _):p:=h
theorem oU(h:p:=by exact decide_eq_false h0):p:=h
theorem oV(h:p:=by exact F.grown R7 g8 aA):p:=h
theorem oW(h:p:=by
 clear K;obtain⟨vn,vt,vm,hS,hwf,-,n2,n3,agn⟩:=hO8;have HCS:=Y hS;clear hS;obtain⟨An,cn,hvn,-⟩:=N8.form;subst hvn;go_wp2_with(refine ur (.store 26 (.tmp 79) (.tmp 78)) J (af J gn 0 (.slice An nm.length cn) B8 I vO ?_));intro w9 B9 g9 _;obtain⟨M9,hM9⟩:∃ul,ul=cs.set 0 (.slice An nm.length cn):=gG;rw[<-hM9]at B9;have lM9:M9.length=33:=jE;have HM9:=Y hM9;clear hM9;have S9:=uK.vj g9 B8 az;have R9:ER w9 g m (q:Int) 0:=F.grown R8 g9 aA;have o9:=o8.y7 g9 HA.out S9;have N9:=N8.uH S9;have t9:=n2.uH S9;have u9:=n3.uH S9;have G9:w.grownBy w9 (some g):=kO;clear R8 o8 N8 n2 n3 G8 g9 B8 S9;go_wp2_with(refine ur (.store 3 (.tmp 81) (.tmp 80)) J (af J gn 1 (.int .i64 (O:Int)) B9 I uZ ?_));intro wa Ba ga _;obtain⟨Ma,hMa⟩:∃ul,ul=M9.set 1 (.int .i64 (O:Int)):=gG;rw[<-hMa]at Ba;have lMa:Ma.length=33:=mE;have HMa:=Y hMa;clear hMa;have Sa:=uK.vj ga B9 az;have Ra:ER wa g m (q:Int) 0:=F.grown R9 ga aA;have oa:=o9.y7 ga HA.out Sa;have Na:=N9.uH Sa;have ta:=t9.uH Sa;have ua:=u9.uH Sa;have Ga:w.grownBy wa (some g):=kL;clear R9 o9 N9 t9 u9 G9 ga B9 Sa;go_wp2_with(refine ur (.store 3 (.tmp 83) (.tmp 82)) J (af J gn 2 (.int .i64 (N:Int)) Ba I uZ ?_));intro wb Bb gb _;obtain⟨Mb,hMb⟩:∃ul,ul=Ma.set 2 (.int .i64 (N:Int)):=gG;rw[<-hMb]at Bb;have lMb:Mb.length=33:=mD;have HMb:=Y hMb;clear hMb;have Sb:=uK.vj gb Ba az;have Rb:ER wb g m (q:Int) 0:=F.grown Ra gb aA;have ob:=oa.y7 gb HA.out Sb;have Nb:=Na.uH Sb;have tb:=ta.uH Sb;have ub:=ua.uH Sb;have Gb:w.grownBy wb (some g):=kK;clear Ra oa Na ta ua Ga gb Ba Sb;go_wp2_with(refine ur (.store 3 (.tmp 85) (.tmp 84)) J (af J gn 3 (.int .i64 (ak:Int)) Bb I uZ ?_));intro wc Bc gc _;obtain⟨Mc,hMc⟩:∃ul,ul=Mb.set 3 (.int .i64 (ak:Int)):=gG;rw[<-hMc]at Bc;have lMc:Mc.length=33:=mC;have HMc:=Y hMc;clear hMc;have Sc:=uK.vj gc Bb az;have Rc:ER wc g m (q:Int) 0:=F.grown Rb gc aA;have oc:=ob.y7 gc HA.out Sc;have Nc:=Nb.uH Sc;have tc:=tb.uH Sc;have uc:=ub.uH Sc;have Gc:w.grownBy wc (some g):=kJ;have hMz:Mc=vX (.slice An nm.length cn) vt vm {r0 with name:=nm,O:=O,N:=N,ak:=ak}:=ld;have OW:xv wc Mc {r0 with name:=nm,O:=O,N:=N,ak:=ak}:=lJ;clear Rb ob Nb tb ub Gb gc Bb Sc HMc HMb HMa HM9 HCS hMz Nc tc uc lM9 lMa lMb hcl hwf agn;have ZS:Hid (abe m aeI (acc++[{r0 with name:=nm,O:=O,N:=N,ak:=ak}]) (n-(k+1)) ((q:Int)+sz) x):=Y ⟨fun h0=>by
  rcases hx with⟨_,hr⟩|⟨hx,_⟩
  ·have:=HE.out;rw[hr]at this;refine⟨q+sz,I,hqs,?_⟩;rw[<-Gi this];exact HB.out
  ·exact absurd h0 hx,fun h0=>by
  rcases hx with⟨U,_⟩|⟨_,hr⟩
  ·exact absurd U h0
  ·
   have:=HE.out;rw[hr]at this;exact HB.out.symm.trans (Cr this)⟩
 generalize({r0 with name:=nm,O:=O,N:=N,ak:=ak}:RR)=r9 at*;clear HE HB hx;have c1:=F.M Rc 1 J;have hq1:(q:Int)+sz<=131072:=I;go_wp2_with(refine ur (.store 3 (.tmp 94) (.tmp 92)) J (af J g 1 (.int .i64 ((q:Int)+sz)) Rc ap uZ ?_));intro wd Bd gd _;have Sd:=uK.vj gd Rc az;have Dd:=Bc.grown gd aA;have od:=oc.vj gd Rc az az;have Gd:=vQ Gc gd;have OWd:=OW.uH Sd;clear c1 Rc oc Gc Bc gd Sd OW hq1;go_wp2_with(refine ur (.store 142 (.tmp 98) (.tmp 96)) J (af J g 2 (.int .i64 x) Bd ap zD ?_));intro we Be ge _;have Se:=uK.vj ge Bd az;have De:=Dd.grown ge aA;have oe:=od.vj ge Bd az az;have Ge:=vQ Gd ge;have OWe:=OWd.uH Se;have Re:ER we g m ((q:Int)+sz) x:=Be;have o1:=Y OWe.one;clear Dd od Gd Bd ge Se OWd Be;have kn:Below we.heap.size we (we.alloc (.cells Mc.toArray 119)):=gF;obtain⟨uo,ow,hE⟩:=oe;have ow2:=wC ow kn;have Bn:=F.new we 119 Mc;have hrg:(we.alloc (.cells Mc.toArray 119)).rangeAt we.heap.size 0 Mc:=by have:=Bn.range 0 33 I;rwa[List.drop_zero,List.take_of_length_le I]at this
 have G2:=zN Ge (.cells Mc.toArray 119);have hs1:=Ge.size;have R2:=F.G Re kn (F.lt Re);replace hE:=hE.mono (fun _ _ x=>x.uH (uK.G kn));have OW2:=OWe.uH (uK.G kn);go_wp2_with(first
  |(refine ur (.load 119 (.tmp 12)) rfl ?_;go_must(refine uu rfl _ _ rfl gn 0 rfl De 33 I _ underlying119 rfl uU Mc (wP I) ?_))
  |(refine ur (.buildSlice 48 1 #[(0,.tmp 100)]) rfl ?_;go_must(refine Mj rfl (.tmp 100) rfl Mc rfl lMc ?_))
  |(at_builtin;go_must(refine Bv _ rfl (.tmp 99) (.tmp 101) rfl w.heap.size _ acc.length uo.flatten rfl ow2 aA (some ⟨we.heap.size,0,none⟩) 1 1 Mc rfl (fun _=>⟨we.heap.size,0,J,hrg⟩) I o1.out I (acc.length+1) J ?_)))
 intro A' c' wf of gf;have S2:=uK.own ow2 az gf;have o3:u7 wf w.heap.size (.slice A' (acc.length+1) c') (acc++[r9]):=mV;have R3:ER wf g m ((q:Int)+sz) x:=wh R2 ow2 az gf;have G3:w.grownBy wf (some g):=lO;clear Re R2 Ge G2 ow ow2 hE OWe OW2 Bn hrg S2 gf of kn o1 De;go_wp2_with fail;go_roundw
 case rel=>exact⟨k+1,acc++[r9],(q:Int)+sz,x,I,gp,Y dB,o3,R3,G3,ZS⟩
 case measure=>simp[intOf];omega
 ):p:=h
theorem oX(h:p:=by
 intro w3 hb3 hg3 _;rw[List.drop_of_length_le bj,List.append_nil]at hb3;have S3:=uK.vj hg3 A2 az;have HB3:=uq ty hg3 ty.size (Nat.le_refl _);clear hg3 A2 B2 ty;go_wp2_with fail;refine vg J w.heap.size J hb3 _ underlying119 J cf J (.int .i64 0) J ?_;exact⟨L,J,OW.out _ S3,HB3⟩
 ):p:=h
theorem oY(h:p:=by
 go_wp2_with(first
  |(refine ur (.load 119 (.tmp 76)) rfl ?_;go_must(refine wj rfl 119 (.tmp 76) rfl ba (oa+k*33) rfl ck hRk _ underlying119 rfl df ?_))
  |(refine ur (.store 119 (.tmp 17) (.tmp 77)) rfl (ab rfl wr.heap.size 0 ck (F.wE _ _ wm _ ap) bj df ck1.out ?_)))
 intro w4 hb4 hg4 hs4;rw[List.drop_of_length_le bj,List.append_nil]at hb4;have bo:al wr w4:=iI;have W4:=Wr.G bo;have K4:=Kr.trans (wL.y9 bo uw);have HB4:=um HBr HBr.size bo;have agv:=Nat.le_trans uw bo.size;clear hg4 hs4 hRk HBr bo Wr Kr uw;go_wp2_with(refine ur (.load 119 (.tmp 17)) J ?_;go_must(refine uu J _ _ J wr.heap.size 0 J hb4 33 I _ underlying119 J uU ck (wP I) ?_));refine(RC.out _ W4 HB4 agv).mono ?_;rintro _ w5 ⟨rfl,W5,K5⟩;have K5':=K4.trans K5;clear RC hb4 W4 K4 HB4 agv K5;have RM:=Y (fun hl=>Sj w2.heap.size gw sn.1 p sn.2 0 w5 W5 hl);by_cases h5:65535<sn.1.length
 ·obtain⟨rfl,rfl⟩:=RL.out (Nat.lt_of_lt_of_le h5 LN.out);have RM':=Y (RM.out akQ);rw[if_pos ⟨J,h5⟩]at RM';clear RM akQ;go_wp2_with fail;refine RM'.out.mono ?_;rintro _ w6 ⟨rfl,rfl⟩;clear RM' h5 LN ST;go_wp2_with fail;go_ret2;exact uI.mk J (ty.trans (K5'.1.mono ty.size))
 ·
  have RM':=Y (RM.out I);rw[if_neg (fun h=>h5 h.2)]at RM';clear RM;go_wp2_with fail;refine RM'.out.mono ?_;rintro _ w6 ⟨rfl,rfl⟩;clear RM' LN;go_wp2_with fail;go_roundw
  case rel=>exact⟨k+1,I,gp,by rw[HSN.out];omega,by rw[HSN.out];exact W5,K5'⟩
  case measure=>simp[intOf];omega
 ):p:=h
theorem oZ(h:p:=by
 go_wp2_with fail;refine leaves_cons (f:=214) (args:= #[.pointer (some ⟨w.heap.size,0,none⟩),.pointer (some ⟨w.heap.size+1,0,none⟩)]) ap aS ?_;refine(XH w.heap.size _ (zc _ _ _ _ _) _ _ _ M3 E3).mono ?_;rintro e u' w4 ⟨rfl,rfl,c0,c1,k4⟩;have b4:=b3.trans k4;simp only[settle];refine Hk J J c0 J c1 ?_;exact⟨NE.out _ J,J,b4⟩
 ):p:=h
theorem o7(h:p:=by
 go_wp2_with(first
  |(refine ur (.load 119 (.tmp 66)) rfl ?_;go_must(refine wj rfl 119 (.tmp 66) rfl ba (oa+k*33) rfl ck hRk _ underlying119 rfl df ?_))
  |(refine ur (.store 119 (.tmp 12) (.tmp 67)) rfl (ab rfl wr.heap.size 0 ck (F.wE _ _ wm _ ap) bj df ck1.out ?_)))
 intro w3 hb3 hg3 hs3;rw[List.drop_of_length_le bj,List.append_nil]at hb3;have HB3:al w w3:=jo;clear hg3 hs3 hRk HBr;go_wp2_with(refine ur (.load 119 (.tmp 12)) J ?_;go_must(refine uu J _ _ J wr.heap.size 0 J hb3 33 I _ underlying119 J uU ck (wP I) ?_));refine(CK.out _ HB3).mono ?_;rintro _ w4 ⟨rfl,b4⟩;have HB4:=um HB3 HB3.size b4;clear CK hb3 b4 HB3;by_cases he0:ek=0
 ·
  subst he0;go_wp2_with fail;go_roundw
  case rel=>exact⟨k+1,I,gp,Y (HJ2.out trivial),HB4⟩
  case measure=>simp[intOf];omega
 ·have e1:(ek !=0)=true:=iM;have e2:=FK.out he0;subst e2;have hr0:=HEX.out.trans (if_pos he0);subst hr0;clear HEX FK HJ2 he0;go_wp2_with fail;go_ret;exact uI.mk J HB4
 ):p:=h
theorem pa(h:p:=by
 intro w8 B8 g8 _;replace B8:F w8 (w.heap.size+1+1) 50 uX:=gU;have HB8:=uq HB g8 HB.size I;clear g8 HB B4;go_wp2_with fail;refine vg J (w.heap.size+1+1) J B8 _ underlying50 J uW J (.bool false) J ?_;rw[HF.out];exact⟨uX,J,vf.zero _,HB8⟩
 ):p:=h
theorem pb(h:p:=by
 go_wp2_with fail;refine(C.out).mono ?_;intro e1 w9 hx;have hx:=hx.back FW.out;obtain⟨v,D',rfl,hx2⟩:=hx;have HX:=Y hx2;clear hx2 hx;go_wp2_with fail;go_ret;rw[HR2.out];exact⟨v,D',J,HX.out⟩
 ):p:=h
theorem pc(h:p:=by
 intro w3 hb3 hg3 _;rw[List.drop_of_length_le bj,List.append_nil]at hb3;have HB3:=uq ty hg3 ty.size (Nat.le_refl _);clear hg3 A2 ty;go_wp2_with fail;refine vg J w.heap.size J hb3 _ underlying119 J cD J (.int .i64 5) J ?_;exact⟨hx,J,HB3⟩
 ):p:=h
theorem pd(h:p:=by
 clear K M4 M3 E3 C3 b3 kn ow hE ow2 Bn hrg oq4 oq3 b4 R3 R4 E4 C4 hr5 o5 g5 S5 q5 M5 R5 E5 C5 b5 g6 g3 QC hcl;go_wp2_with fail;go_roundw
 case rel=>exact⟨k+1,acc++[q],p',_,I,gp,Y dB,M6,q6,R6,l3,E6,C6,b6,HO1⟩
 case measure=>simp[intOf];omega
 ):p:=h
theorem pf(h:p:=by
 have alW:¬(j3:Int)<m.length:=I;obtain rfl:aeI= .ok ⟨hd,acc,l1,l2,l3⟩:=ot;obtain⟨L,hL⟩:∃L,L=yF hd (.slice A acc.length c) (.slice A1 l1.length c1) (.slice A2 l2.length c2') (.slice A3 l3.length c3):=gG;have lL:L.length=14:=oE;have aoX:=Y (show ∀v∈L,v.oneCell'=true by rw[hL];exact Ah hd J J J J);rw[<-hL]at M6;have HLL:=Y hL;have q7:=q6.YL;clear hL CH DE NE hE q6 hjl RZ;go_wp2_with(first
  |(refine ur (.load 50 (.tmp 8)) rfl ?_;go_must(refine uu rfl _ _ rfl g8 0 rfl M6 14 I _ underlying50 rfl uW L (wP I) ?_))
  |(refine ur (.store 50 (.tmp 2) (.tmp 102)) rfl (ab rfl w.heap.size 0 L BZ dL dC aoX.out ?_)))
 intro wy By gy _;replace By:=Ee By dL;have HBy:=uq HBz gy HBz.size (Nat.le_refl _);have q8:=q7.vj gy BZ az az;have o18:=o16.vj gy BZ az az;have o28:=o26.vj gy BZ az az;have o38:=o36.vj gy BZ az az;clear gy M6 BZ HBz q7 o16 o26 o36 z1 z2;go_wp2_with fail;refine vg J w.heap.size J By _ underlying50 J dC J (.int .i64 0) J ?_;exact⟨L,J,⟨_,_,_,_,HLL.out,q8,o18,o28,o38,(show acc.length<=65535 by omega),(show l1.length<=65535 by omega),(show l2.length<=65535 by omega),(show l3.length<=65535 by omega)⟩,HBy⟩
 ):p:=h
theorem pg(h:p:=by
 go_wp2_with fail;go_ret;exact uI.mk J HB
 ):p:=h
theorem ph(h:p:=by
 go_wp2_with(refine ur (.store 119 (.tmp 10) (.tmp 215)) J (ab J w.heap.size 0 wm A2 bj cD wJ ?_));intro w3 hb3 hg3 _;rw[List.drop_of_length_le bj,List.append_nil]at hb3;have HB3:=uq ty hg3 ty.size (Nat.le_refl _);clear hg3 A2 ty;go_wp2_with fail;refine vg J w.heap.size J hb3 _ underlying119 J cD J (.int .i64 y) J ?_;exact⟨hx,J,HB3⟩
 ):p:=h
theorem pi(h:p:=by
 go_wp2_with(refine ur (.store 119 (.tmp 10) (.tmp 77)) J (ab J w.heap.size 0 wm A2 bj cD wJ ?_));intro w3 hb3 hg3 _;rw[List.drop_of_length_le bj,List.append_nil]at hb3;have HB3:=uq ty hg3 ty.size (Nat.le_refl _);clear hg3 A2 ty;go_wp2_with fail;refine vg J w.heap.size J hb3 _ underlying119 J cD J (.int .i64 x) J ?_;exact⟨hx,J,HB3⟩
 ):p:=h
theorem pj(h:p:=by
 intro w6 hb6 hg6 hs6;rw[List.drop_of_length_le bj,List.append_nil]at hb6;have HB6:al w w6:=iO;clear hg6;go_wp2_with fail;refine vg J (w.heap.size+1) J hb6 _ underlying119 J bu J _ J ?_;exact uI.mk J HB6
 ):p:=h
theorem pk(h:p:=by
 go_wp2_with(refine ur (.store 50 (.tmp 4) (.tmp 21)) J (ab J gr 0 uX B4 I uW xy ?_));intro w8 B8 g8 _;replace B8:=Ez B8 dL;have HB8:=uq HB4 g8 HB4.size hgr;clear g8 HB4 B4;go_wp2_with fail;refine vg J gr J B8 _ underlying50 J uW J (.bool false) J ?_;rw[HF.out];exact⟨uX,J,vf.zero _,HB8⟩
 ):p:=h
theorem pn(h:p:=by
 go_wp2_with fail;go_ret;exact uI.mk (yE HR.out.symm) ((Below.refl _ _).alloc (Nat.le_refl _) _)
 ):p:=h
theorem pq(h:p:=by
 go_wp2_with(at_builtin;go_must(refine Bo _ J (.tmp 23) (.tmp 25) 145 J 5 (.int .u8 0) 1 1 underlying145 DJ J az w.heap.size _ k _ J (World.ownsRow.alloc Z _) aT ⟨wr.heap.size,0,none⟩ 1 1 [.int .u8 ((l[k].toNat:Int))] J J (Cg _ _ _ _ J) (zO J) az aK I ?_));intro g2 akm w2 hb2 ahw agS;have hB2:=xV (hB.alloc hB.size _) aT (Z.alloc _) ahw;have hb3:w2.ownsRow w.heap.size 5 1 (.slice (some ⟨g2,0,none⟩) (k+1) akm) (k+1) (vT (yH (l.take (k+1)))):=by
  have e:vT (yH (l.take (k+1)))=vT (yH (l.take k))++[.int .u8 ((l[k].toNat:Int))]:=by rw[List.take_succ_eq_append_getElem aB];simp only[yH,List.map_append,Bl,List.map_cons,List.map_nil,OS];rw[HX.out]
  rw[e];exact hb2
 clear Z hb2 ahw hB;go_wp2_with fail;go_roundw
 case rel=>exact⟨k+1,I,gp,hb3,hB2⟩
 case measure=>simp[intOf];omega
 ):p:=h
theorem pr(h:p:=by
 rcases HT with rfl|⟨rfl,rfl⟩;all_goals
  go_enter func196,ntmps196;go_wp2_with fail;go_ret;exact uI.mk eM HX
 ):p:=h
theorem pt(h:p:=by
 go_wp2_with(refine ur (.load 24 (.tmp 77)) J ?_;go_must(refine uu J _ _ J (w.heap.size+1) 4 J B2 18 I _ underlying24 J MX ac agp ?_));refine(BJ.out _).mono ?_;rintro _ w3 ⟨rfl,b3⟩;replace A2:=A2.G b3 A2.lt;replace B2:=B2.G b3 B2.lt;replace ty:=um ty ty.size b3;rw[hLL.out]at B2;clear BJ b3 hLL ll agp hal;simp only[WQ];clear B2;go_wp2_with(refine ur (.store 119 (.tmp 10) (.tmp 82)) J (ab J w.heap.size 0 wm A2 bj cD wJ ?_));intro w5 hb3 hg3 _;rw[List.drop_of_length_le bj,List.append_nil]at hb3;have HB3:=uq ty hg3 ty.size (Nat.le_refl _);clear hg3 A2 ty;go_wp2_with fail;refine vg J w.heap.size J hb3 _ underlying119 J cD J (.int .i64 5) J ?_;exact⟨az,J,HB3⟩
 ):p:=h
theorem pu(h:p:=by
 go_ret;exact uI.mk J HB
 ):p:=h
theorem pv(h:p:=by
 go_wp2_with fail;go_ret;exact xX.mk J J
 ):p:=h
theorem pw(h:p:=by
 go_wp2_with fail;go_ret;exact uI.mk J HB9
 ):p:=h
theorem pz(h:p:=by
 go_enter func27,ntmps27;go_wp2_with fail;go_quiet(fail);obtain⟨W,hW⟩:∃W,W=(w.alloc (.cells es.toArray 42)).drewN nq:=gG;rw[<-hW];have HW:al w W:=ij;have EW:F W w.heap.size 42 es:=iH;have JW:=h.G HW;clear hW c18 c25 d20 aeH h HX;obtain⟨L,ds,hbk,hL,_,_,_,_,_,_,c23,c24,c25,_⟩:=JW.vj;have a23:=hbk.M 23 c23;have a24:=hbk.M 24 c24;have a25:=hbk.M 25 c25;have f23:=hbk.frozen 23;have f24:=hbk.frozen 24;have f25:=hbk.frozen 25;have d0:=EW.M 0 E0;have d21:=EW.M 21 E21;clear c23 c24 c25 EW hL;rw[hop]at a24;clear hop hbk;go_wp2_with fail;go_ret;rw[HR2.out];exact⟨_,J,vJ.nil _ _,JW,uM HW _⟩
 ):p:=h
theorem pA(h:p:=by
 rcases HT with rfl|⟨rfl,rfl⟩;all_goals
  go_enter func148,ntmps148;go_wp2_with fail;go_ret;exact uI.mk eM HX
 ):p:=h
theorem pB(h:p:=by
 go_enter func18,ntmps18;go_wp2_with fail;go_quiet(fail);obtain⟨W,hW⟩:∃W,W=(w.alloc (.cells es.toArray 42)).drewN nq:=gG;rw[<-hW];have HW:al w W:=ij;have EW:F W w.heap.size 42 es:=iH;have JW:=hJ.G HW;clear hW c18 c24 d20 aeH hJ HX;obtain⟨vn,L,ds,hbk,hL,_,_,_,_,_,c23,c24,c25,_⟩:=JW.vj;have a23:=hbk.M 23 c23;have a24:=hbk.M 24 c24;have a25:=hbk.M 25 c25;have f24:=hbk.frozen 24;have f25:=hbk.frozen 25;have d0:=EW.M 0 E0;have d21:=EW.M 21 E21;clear c23 c24 c25 EW hbk hL;rw[hop]at a25;clear hop;go_wp2_with fail;go_ret;rw[HR2.out];exact⟨_,J,vJ.nil _ _,⟨p,JW,HK.out⟩,uM HW _⟩
 ):p:=h
theorem pC(h:p:=by
 have HD:=Y (And.intro D1 (And.intro D2 (And.intro D3 (And.intro KO9 H9))));clear D1 D2 D3 KO9 H9;go_wp2_with fail;all_goals
  go_meet
  case rel=>obtain⟨D1,D2,D3,KO9,H9⟩:=HD.out;exact⟨KO9.vj (vp _ _ _ _) D3 az,D1.y7 apR _,D2.y7 apQ _,D3.afN I J,uq H9 (vp _ _ _ _) H9.size hb3⟩
 ):p:=h
theorem pD(h:p:=by
 go_ret;exact xX.mk J J
 ):p:=h
theorem pE(h:p:=by
 go_wp2_with fail;go_ret;exact uI.mk eM HX
 ):p:=h
theorem pF(h:p:=by
 have h1:¬(k:Int)<l.length:=I;go_wp2_with fail;go_ret;refine⟨_,J,?_,hB⟩;rw[List.take_of_length_le I]at ho hle;rw[List.take_of_length_le I,Sz hle];exact ho
 ):p:=h
theorem pG(h:p:=by
 go_enter func46,ntmps46;go_wp2_with(first
  |(refine ur (.build 37 #[]) rfl ?_;go_must(refine wi rfl 37 _ rfl #[] ap (RB.out _) ?_))
  |(refine ur (.store 37 (.tmp 2) (.tmp 19)) rfl (ab rfl w.heap.size 0 Q BZ fS eU hq1 ?_)))
 intro w2 B2 g2 sw;clear sw;replace B2:=xA (L:=Q) B2 fT;have H2:=uq HX g2 HX.size (Nat.le_refl _);have FF:=Y (FIN.out w2 H2);clear BZ HX g2 H2 FIN;go_wp2_with fail;refine vg J w.heap.size J B2 _ underlying37 J eU J (.bool false) J ?_;exact FF.out
 ):p:=h
theorem pH(h:p:=by
 rw[show Hd.ok _=false by simp[Hd.ok];omega];go_enter func158,ntmps158;go_wp2;go_ret;exact uI.mk J ax
 ):p:=h
theorem pI(h:p:=by
 have e2:qe=4:=HQ.out;subst e2;have e3:=FK.out az;subst e3;have hr0:=HE2.out.trans (if_pos az);subst hr0;clear HE2 FK HJ2 HQ;go_wp2_with fail;go_ret;exact uI.mk J HBn
 ):p:=h
theorem pJ(h:p:=by
 obtain⟨k,z,rfl,rfl⟩:=hrel;have Z:=xc n k;by_cases aB:k<n.length
 ·
  have h1:(k:Int)<n.length:=I;obtain⟨b,off,rfl,_,xa⟩:=hA I;have c1:=xa k aB;have S:=Y (DH n k aB);have hb2:=xc n (k+1);rw[S.out]at hb2;clear xa;go_wp2_with fail;go_round
  case rel=>exact⟨k+1,I,gp,by rw[S.out];go_num⟩
  case measure=>simp[intOf];omega
 ·have h1:¬(k:Int)<n.length:=I;go_wp2_with fail;go_ret;exact xX.mk (yE gi) J
 ):p:=h
theorem pK(h:p:=by
 obtain⟨A',c',rfl⟩:=ya X;unfold Oper.wp execOp;simp only[ho,resolve,invoke,builtin,Sem.run_bind,Sem.run_pure,Result.andThen_ok,List.map_toArray,List.map_cons,List.map_nil,hs,hx,hr];exact hK _ _ (h A' c' w' X h3)
 ):p:=h
theorem pL(h:p:=by
 go_wp2_with fail;go_roundw
 case rel=>exact⟨k+1,I,gp,by rw[FS.out];exact O4,by rw[FS.out];simp;omega,H4⟩
 case measure=>simp[intOf];omega
 ):p:=h
theorem pM(h:p:=by
 go_wp2_with fail;refine(Qg r _ I).mono ?_;rintro e w6 ⟨rfl,b6⟩;go_wp2_with fail;refine(Mv g pre post [] r _ (j5.G b6) aA).mono ?_;rintro e w7 ⟨rfl,j7,g7⟩;go_wp2_with fail;go_ret;obtain⟨_,_,_,_,_,jb,_⟩:=j5.G b6;exact⟨_,J,by rw[E1.out,(wK _ hno).1,List.append_nil];exact(t5.G b6).grown g7 jb az,by rw[E2.out,(wK _ hno).2];exact j7,uC (vR f5 b6) g7 (.inl J)⟩
 ):p:=h
theorem pN(h:p:=by
 have H8:=uq VH g8 VH.size X;go_wp2_with fail;refine xd J g3 J B8' _ underlying92 J eY J ?_;rw[aeH.out];exact uI.mk J H8
 ):p:=h
theorem pO(h:p:=by
 clear K;go_wp2_with fail;refine vg J (w.heap.size+1) J hb6 _ underlying119 J bu J (.int .i64 e) J ?_;exact uI.mk J HB6
 ):p:=h
theorem pP(h:p:=by
 have e:yL m a n O N=Fo (fun l=>{RR.zero with pri:=vw (((m.take (a+n)).drop a).take 2),we:=vw ((((m.take (a+n)).drop a).drop 2).take 2),po:=vw ((((m.take (a+n)).drop a).drop 4).take 2),tg:=l}) (xF (m.take (a+n)) (a+6)):=by unfold yL;rw[if_neg I,if_neg I,if_neg I,if_pos h,if_neg hn];cases xF (m.take (a+n)) (a+6)<;>rfl
 rw[e];exact this
 ):p:=h
theorem pQ(h:p:=by
 go_wp2_with fail;go_ret3;exact⟨_,J,wO.nil _,hB,by simp[Value.ownBlock]⟩
 ):p:=h
theorem pR(h:p:=by
 go_wp2_with(refine ur (.load 92 (.tmp 3)) J ?_;go_must(refine uu J _ _ J gz 0 J BV 15 (by rw[ZL];decide) _ underlying92 J Cb _ (wP I) ?_));refine(FV.out _ HV).mono ?_;intro e9 w9 hf;obtain⟨he,hx⟩:=hf.x (L:=L) (D:=dp) (HLT.out.G HV) gne;rw[he];have HX:=Y (hx.back (Fr.G HV));clear he hf FV hx;go_wp2_with fail;go_ret;rw[HR2.out];exact HX.out
 ):p:=h
theorem pS(h:p:=by
 go_wp2_with fail;go_ret;exact uI.mk J ((Below.refl _ _).alloc (Nat.le_refl _) _)
 ):p:=h
theorem pT(h:p:=by rwa[List.drop_zero,List.take_of_length_le I]at this):p:=h
theorem pU(h:p:=by
 go_wp2_with fail;go_round
 case rel=>exact⟨k+1,I,gp,Y (fun j hj h=>by
  by_cases e:j=k
  ·subst e;exact HB.out
  ·
   exact H.out j hj I)⟩
 case measure=>simp[intOf];omega
 ):p:=h
theorem pV(h:p:=by
 go_wp2_with(refine ur (.store 5 (.tmp 96) (.tmp 93)) J (af J (w.heap.size+1) (5+k) (.int .u8 (c:Int)) B2 I acP ?_));intro w4 B4 g4 _;rw[SL.out]at B4;have A4:=A2.grown g4 ap;have HB4:=uq ty g4 ty.size I;clear B2 A2 ty g4 SL alY;go_wp2_with fail;go_roundw
 case rel=>exact⟨k+1,I,gp,B4,A4,HB4⟩
 case measure=>simp[intOf];omega
 ):p:=h
theorem pW(h:p:=by
 simp only[Op.eqFields,ne_eq,String.reduceEq,not_false_eq_true,if_true,Sem.run_bind,p0,p1 a ha,p1 b Z,p2 a ha,p2 b Z,e0,e1,e2,Result.andThen_ok,Sem.run_ite,Sem.run_pure];obtain⟨fa,ia,za⟩:=a;obtain⟨fb,ib,zb⟩:=b;simp only[vG.mk.injEq];by_cases U:fa=fb<;>by_cases X:ia=ib<;>by_cases h3:za=zb<;>simp[U,X,h3]
 ):p:=h
theorem pX(h:p:=by
 refine Bf.same J J J J ?_ ?_ hlg hv (Nat.le_add_right _ _) J
 ·exact((Gu (x:={x with left:=x.left-1}) hd).trans hr.symm)
 ·have e:=(Vv (x:={x with left:=x.left-1}) hd);have e2:Xc.rest {x with left:=x.left-1}=x.rest:=lr;rw[e,e2,hp];show(x.left-1).toNat+x.cl.toNat*x.rest<=_;omega
 ):p:=h
theorem pY(h:p:=by
 by_cases h4:f=4
 ·subst h4;go_wp2_with fail;go_ret;exact uI.mk cL HB
 ·
  have h4':(f==4)=false:=by simpa using h4
  by_cases h6:f=6
  ·subst h6;go_wp2_with fail;go_ret;exact uI.mk cL HB
  ·have h6':(f==6)=false:=jB;rw[if_neg h4,if_neg h6]at HK;clear h4 h6;go_wp2_with fail;go_ret;exact uI.mk cL HB
 ):p:=h
theorem pZ(h:p:=by
 go_wp2_with(refine ur (.load 119 (.tmp 3)) J ?_;go_must(refine uu J _ _ J w.heap.size 0 J B0 33 I _ underlying119 J uU cs (wP I) ?_));go_wp2_with fail;refine(CK.out _ HB0).mono ?_;rintro _ w2 ⟨rfl,b2⟩;have HB:=um HB0 HB0.size b2;clear B0 HB0 b2 CK;go_wp2_with fail;go_ret2;exact uI.mk J HB
 ):p:=h
theorem qb(h:p:=by
 subst hty;unfold execOp;simp only[ho,resolve,invoke,builtin,Sem.run_bind,Sem.run_pure,Result.andThen_ok,List.map_toArray,List.map_cons,List.map_nil,hs,hy,hr]
 ):p:=h
theorem qd(h:p:=by
 go_wp2_with fail;refine agc.out.mono ?_;rintro _ w1 ⟨v,rfl,hT,hB,_⟩;by_cases hx:x=1
 ·
  subst hx;obtain rfl:y=5:=by rw[hE.out];rfl
  go_wp2_with fail;go_ret3;exact⟨v,J,hT,hB⟩
 ·have hx':(x==1)=false:=iR;obtain rfl:y=x:=oN;clear hx hE;go_wp2_with fail;go_ret3;exact⟨v,J,hT,hB⟩
 ):p:=h
theorem qf(h:p:=by
 go_wp2_with(refine ur (.load 50 (.tmp 2)) J ?_;go_must(refine uu J _ _ J w.heap.size 0 J B0 14 I _ underlying50 J uW cs (wP I) ?_));go_wp2_with fail;refine(CK.out _ HB0).mono ?_;rintro _ w1 ⟨rfl,b1⟩;have HB1:=um HB0 HB0.size b1;go_wp2_with fail;go_ret2;exact uI.mk J HB1
 ):p:=h
theorem qg(h:p:=by
 go_wp2_with fail;go_roundw
 case rel=>exact⟨k+1,I,gp,hb3,hB2⟩
 case measure=>simp[intOf];omega
 ):p:=h
theorem qi(h:p:=by
 intro v' w' hO' f';have FIN:=Y (Df.Cm hA9 F9 O9 (Nat.le_refl _) hw0 hO' f');clear hA9 F9 O9 hO9 hO' f';go_wp2_with fail;go_ret;rw[HR2.out];exact FIN.out
 ):p:=h
theorem qj(h:p:=by
 intro v' w' hO' f';have FIN:=Y (zy.Cm hA9 hL9 F9 hD9 O9 uw hO' f');clear hA9 hL9 F9 hD9 O9 hO9 hO' f';go_wp2_with fail;go_ret;rw[HR2.out];exact FIN.out
 ):p:=h
theorem qm(h:p:=by
 go_wp2_with fail;go_roundw
 case rel=>exact⟨k+1,I,gp,by rw[U1.out],by rw[U2.out];exact O2.out,H2,BX3⟩
 case measure=>simp[intOf];omega
 ):p:=h
theorem qn(h:p:=by
 go_wp2_with fail;go_roundw
 case rel=>exact⟨k+1,I,gp,by rw[U1.out],by rw[U2.out];exact O1.out,H1,BX2⟩
 case measure=>simp[intOf];omega
 ):p:=h
theorem qo(h:p:=by
 go_wp2_with fail;go_ret;rw[HR2.out];exact FIN.out
 ):p:=h
theorem qp(h:p:=by
 have e:(rest.length<2)=False:=aA;have h':=Ky g rest false 2 w h hl;rw[show zP rest false (hw 2)=rest.take 2 by simp[zP,hw,e],show yZ rest false (hw 2)=rest.drop 2 by simp[yZ,hw,e],show yQ rest false (hw 2)=false by simp[yQ,hw,e]]at h';exact h'
 ):p:=h
theorem qt(h:p:=by
 intro w8 B8 g8 _;replace B8:=Ez B8 dL;have HB8:=uq HB5 g8 HB5.size I;have hM8:=hM5.vj g8 B45;clear g8 HB5 B45 hM5;go_wp2_with fail;refine vg J (w.heap.size+1+1) J B8 _ underlying50 J dK J (.bool agH.2) J ?_;rw[HF.out];exact⟨ds,J,hM8,HB8⟩
 ):p:=h
theorem qv(h:p:=by
 rcases adU.2 with⟨rfl,rfl⟩|⟨g,cap,cur,rfl,_,_,hc,_⟩
 ·exact⟨none,0,J,Nat.le_refl _⟩
 ·exact⟨_,_,J,hc⟩
 ):p:=h
theorem qw(h:p:=by exact⟨v,D',J,HX.out⟩):p:=h
theorem qx(h:p:=by
 intro w8 B8 g8 _;replace B8:=Ez B8 dL;have HB8:=uq HB5 g8 HB5.size hgr;have hM8:=hM5.vj g8 B45;clear g8 HB5 B45 B75 hM5;go_wp2_with fail;refine vg J gr J B8 _ underlying50 J dK J (.bool true) J ?_;rw[HF.out];exact⟨ds,J,hM8,HB8⟩
 ):p:=h
theorem qy(h:p:=by
 have b2:=um kb kb.size b1;generalize(vN ul false).1=o1 at*;generalize(vN ul false).2=o2 at*;clear hM b1 MS;go_wp2_with fail;refine EN.out.mono ?_;rintro _ w2 ⟨rfl,b3⟩;have b4:=um b2 b2.size b3;clear EN;go_wp2_with fail;go_ret2;exact uI.mk J b4
 ):p:=h
theorem qz(h:p:=by
 have e2:El T uG r=T:=hI;rw[e1,e2];exact⟨J,hT.G uw hB,vV.y9 hB uw⟩
 ):p:=h
theorem qA(h:p:=by
 go_wp2_with fail;go_ret2;exact uI.mk J HB
 ):p:=h
theorem qB(h:p:=by
 go_wp2_with fail;go_ret;exact uI.mk J ty
 ):p:=h
theorem qD(h:p:=by
 simp only[List.flatten_cons,List.flatten_nil,List.append_nil,List.length_singleton,Nat.one_mul];exact List.take_of_length_le I
 ):p:=h
theorem qF(h:p:=by
 unfold execOp;simp only[ho,Sem.run_bind,Sem.run_pure,Result.andThen_ok,List.map_toArray,List.map_cons,List.map_nil,hx,hr]
 ):p:=h
theorem qG(h:p:=by
 go_wp2_with fail;go_meet
 case rel=>exact⟨by rw[HLW.out],J⟩
 ):p:=h
theorem qH(h:p:=by
 rintro e w1 ⟨rfl,rfl⟩;go_wp2_with fail;go_ret;exact xX.mk (yE RR.out.symm) J
 ):p:=h
theorem qI(h:p:=by
 obtain⟨R1,R2⟩:=PN (x:=x) (Nat.le_trans uw b1.size) U (X.G b1 X.lt) (h3.G b1) (h4.G b1) k1 g1 hb3 hg3;have R3:=(wL.y9 b1 uw).trans R2;clear hb3 hg3 hs3 B2 g1 k1 hr R2;go_wp2_with fail;go_end0;exact⟨J,R1,R3⟩
 ):p:=h
theorem qJ(h:p:=by simp[z5,List.set_append,hT,hq,qC]):p:=h
theorem qK(h:p:=by
 go_enter func203,ntmps203;go_wp2_with(go_at_call 207;first|(refine(xM _ _ _ aW).mono ?_;rintro e w' ⟨rfl,rfl⟩)|(refine(Cp _ _ _ aW).mono ?_;rintro e w' ⟨rfl,rfl⟩));go_ret;exact uI.mk J ax
 ):p:=h
theorem qL(h:p:=by
 go_wp2_with fail;go_ret;exact uI.mk J hB
 ):p:=h
theorem qM(h:p:=by
 go_wp2_with fail;go_meet
 case rel=>exact⟨gz,ds,J,J,B8,hM8,hS8⟩
 ):p:=h
theorem qN(h:p:=by
 have e1:(e0 !=0)=true:=iM;have e2:=HQ.out.trans (if_pos he0);subst e2;have e3:=FK.out he0;subst e3;have hr0:=HE2.out.trans (if_pos he0);subst hr0;clear HE2 FK HJ2 HQ he0;go_wp2_with fail;go_ret;exact uI.mk J HBn
 ):p:=h
theorem qO(h:p:=by
 have e:yL m a n O N=Fo (fun l=>{RR.zero with tg:=l}) (xF (m.take (a+n)) a):=by unfold yL;rw[if_neg I,if_neg I,if_pos (.inr h)];cases xF (m.take (a+n)) a<;>rfl
 rw[e];exact this
 ):p:=h
theorem qP(h:p:=by
 have e:yL m a n O N=Fo (fun l=>{RR.zero with tg:=l}) (xF (m.take (a+n)) a):=by unfold yL;rw[if_neg I,if_neg I,if_pos (.inl h)];cases xF (m.take (a+n)) a<;>rfl
 rw[e];exact this
 ):p:=h
theorem qQ(h:p:=by
 go_enter func180,ntmps180;go_wp2_with(refine ur (.load 28 (.tmp 32)) J ?_;go_must(refine wpList_load_mid J 28 (.tmp 32) J ba oa J _ _ hrg underlying28 J xu ?_));go_ret;exact uI.mk J (anT.out _)
 ):p:=h
theorem qR(h:p:=by
 clear H2;generalize r.se.length=n2 at*;go_enter func86,ntmps86;go_wp2_with fail;go_ret;exact⟨_,J,HX⟩
 ):p:=h
theorem qS(h:p:=by
 go_wp2_with fail;go_ret;exact FIN.out
 ):p:=h
theorem qT(h:p:=by
 go_wp2_with fail;go_quiet(fail);go_wp2_with fail;exact⟨J,J,yt (World.grownBy.refl _ _) _⟩
 ):p:=h
theorem qU(h:p:=by
 go_enter func18,ntmps18;go_wp2_with fail;go_quiet(fail);go_wp2_with fail;go_ret;rw[HR2.out];exact⟨_,J,vJ.nil _ _,⟨p,hJ.G (below_drewN HX _),HK.out⟩,uM (below_drewN HX _) _⟩
 ):p:=h
theorem qV(h:p:=by
 rintro _ w' ⟨rfl,hB⟩;have e1:yT T uG r=(if uQ r.O r.N=1 then r.ad.ip.take 4 else r.ad.ip):=gY;have e2:El T uG r=T:=hI;rw[e1,e2];exact⟨J,hT.G hB,AQ.y9 hB uw⟩
 ):p:=h
theorem qW(h:p:=by
 have e:yL m a n O N= .ok (Nj 6 ((m.take (a+n)).drop a)):=by unfold yL Nj;rw[if_neg U,if_pos h,if_pos hn,hd,hn,Nat.sub_self,List.replicate_zero,List.append_nil]
 rw[e];exact this
 ):p:=h
theorem qX(h:p:=by
 go_ret;exact uI.mk J ax
 ):p:=h
theorem qY(h:p:=by
 rw[hpk]at FS;clear hpk;go_wp2_with fail;go_roundw
 case rel=>exact⟨k+1,I,gp,by rw[FS.out];simpa using HO.out,by rw[FS.out];simpa using hle,hB⟩
 case measure=>simp[intOf];omega
 ):p:=h
theorem rf(h:p:=by
 have hp9:0<(zW l nj 5 q.N).length:=kH;obtain⟨g9,U,X,hr⟩:=O9.uG (fun _ _ h=>h.len) hp9;obtain⟨cx,hcx,vn,vt,vm,hS,_⟩:=hr 0 hp9;exact⟨g9,U,_,hcx 3 _ bI⟩
 ):p:=h
theorem rh(h:p:=by
 go_wp2_with fail;go_ret;exact uI.mk J HB4
 ):p:=h
theorem ri(h:p:=by
 rw[hpk]at FS;clear hpk;go_wp2_with fail;go_roundw
 case rel=>exact⟨k+1,I,gp,by rw[FS.out];simpa using O2,by rw[FS.out];simpa using hle,H2⟩
 case measure=>simp[intOf];omega
 ):p:=h
theorem rj(h:p:=by
 have aiE:(lo++[r.sv[k]]).length<=3:=aA;go_wp2_with fail;go_roundw
 case rel=>exact⟨k+1,_,_,I,gp,O7,aiE,FS1.out,B17,B27,B37,H7⟩
 case measure=>simp[intOf];omega
 ):p:=h
theorem rk(h:p:=by
 go_ret;exact uI.mk J hB5
 ):p:=h
theorem rm(h:p:=by
 have aiE:(lo++[r.so[k]]).length<=10:=aA;go_wp2_with fail;go_roundw
 case rel=>exact⟨k+1,_,_,I,gp,O7,aiE,B17,B27,B37,KO7,H7⟩
 case measure=>simp[intOf];omega
 ):p:=h
theorem rn(h:p:=by
 go_wp2_with fail;go_ret2;refine⟨_,?_,by rw[E1.out,FN.out.1,List.append_nil];exact t0,b0⟩;rw[E2.out,FN.out.2,List.length_drop,show s.length-(s.length-k)=k by omega];rfl
 ):p:=h
theorem rp(h:p:=by
 rw[rounds_succ];go_wp2_with fail;rw[rounds_succ];go_wp2_with fail;go_ret2;exact uI.mk J ax
 ):p:=h
theorem rq(h:p:=by
 have e:yL m a n O N= .ok {RR.zero with raw:=(m.take (a+n)).drop a}:=by unfold yL;rw[if_neg I,if_neg I,if_neg I,if_neg I,if_neg I]
 rw[e];exact this
 ):p:=h
theorem ry(h:p:=by
 simp only[part,isAgg,Sem.run_bind,run_underlying underlying22,Result.andThen_ok,Sem.run_pure,if_true,abE,Sem.run_ite];rw[show 1+16=17 from J,x.abF hx]
 ):p:=h
theorem rA(h:p:=by obtain⟨_,_,At,ct,_,_,rfl,hr,_,hR,_⟩:=h;exact⟨At,ct,BS hr,hR⟩):p:=h
theorem rB(h:p:=by
 go_wp2_with fail;rw[rounds_succ];go_wp2_with fail;go_ret2;refine uI.mk ?_ hC3;simp only[xC,Hp.out,Hq.out,Hz0.out,Hz1.out,Hz2.out,Hz3.out,List.append_assoc];rfl
 ):p:=h
theorem rC(h:p:=by
 have e2:qe=0:=HQ.out;subst e2;clear HQ;go_wp2_with fail;go_roundw
 case rel=>exact⟨k+1,I,gp,Y (HJ2.out trivial),hbn⟩
 case measure=>simp[intOf];omega
 ):p:=h
theorem rD(h:p:=by
 refine⟨h.1,fun hp=>?_⟩;obtain⟨b,off,U,X,h3⟩:=h.2 hp;exact⟨b,off,U,Nat.lt_of_lt_of_le X Z.size,fun i hi=>uD (h3 i hi) Z X⟩
 ):p:=h
theorem rE(h:p:=by
 go_wp2_with fail;go_ret;exact xX.mk (yE R.out.symm) J
 ):p:=h
theorem rF(h:p:=by
 subst hd;refine wpAnyH_all hr ap fun j hj=>?_
 rw[List.mem_singleton]at hj;subst hj;unfold wpOp;simp only[hi,hw,if_true];left;unfold Oper.wp;rw[he];exact⟨K,h⟩
 ):p:=h
theorem rG(h:p:=by
 have U:=Int.emod_nonneg (IntKind.u64.wrap turn) (show(S.length:Int)≠0 by omega);have X:=HT.out;simp only[if_true]at X;rw[X,Int.toNat_of_nonneg U]
 ):p:=h
theorem rH(h:p:=by injection h with h;omega):p:=h
theorem rI(h:p:=by
 go_wp2_with fail;go_ret;exact⟨_,J,HX⟩
 ):p:=h
theorem rJ(h:p:=by
 go_wp2_with fail;go_ret;exact uI.mk J (Below.refl _ _)
 ):p:=h
theorem rK(h:p:=by exact⟨J,hT.G hB,AQ.y9 hB uw⟩):p:=h
theorem rL(h:p:=by
 go_wp2_with fail;go_ret;exact uI.mk J hB0
 ):p:=h
theorem rM(h:p:=by
 have e:yL m a n O N=Mg (m.take (a+n)) a:=by unfold yL;rw[if_neg I,if_neg I,if_neg I,if_neg I,if_pos h];rfl
 rw[e];exact this
 ):p:=h
theorem rN(h:p:=by
 go_wp2_with fail;go_ret;exact uI.mk fB (H2.alloc I _)
 ):p:=h
theorem rO(h:p:=by simpa[List.append_assoc]using this):p:=h
theorem rP(h:p:=by
 have e1:((cs.drop 4).take 18)[17]?=cs[21]?:=by rw[List.getElem?_take_of_lt I,List.getElem?_drop]
 rw[<-e1,MA.out];exact r.ad.KB h16
 ):p:=h
theorem rQ(h:p:=by
 intro v hv;rcases List.mem_cons.1 hv with rfl|hv
 ·rfl
 ·exact hM.one v hv
 ):p:=h
theorem rR(h:p:=by
 clear K;go_wp2_with fail;refine vg J w.heap.size J By _ underlying50 J uW J (.int .i64 (y3)) J ?_;exact⟨HNE,J,HBy⟩
 ):p:=h
theorem rS(h:p:=by
 clear hu;go_wp2;first|go_end0|refine bodyPost_ret (results_none J _ _ _) J ?_
 first|exact⟨J,J,J⟩|exact⟨J,J⟩|rfl
 ):p:=h
theorem rT(h:p:=by
 clear K;go_wp2_with fail;refine vg J w.heap.size J By _ underlying50 J uW J (.int .i64 (2)) J ?_;exact⟨HNE,J,HBy⟩
 ):p:=h
theorem rU(h:p:=by
 clear FE;go_wp2_with fail;refine(Ds _).mono ?_;rintro _ w3 ⟨rfl,b3⟩;go_wp2_with fail;go_ret;exact uI.mk J (um H2 H2.size b3)
 ):p:=h
theorem rV(h:p:=by rwa[List.drop_of_length_le hM,List.append_nil]at h):p:=h
theorem rW(h:p:=by
 refine wpList_plain hgd fun hb hK=>?_
 unfold Oper.wp execOp;simp only[ho,hx,Sem.run_bind,hr,Result.andThen_ok,Sem.run_pure];exact hK _ _ h
 ):p:=h
theorem rX(h:p:=by
 have e:yL m a n O N= .ok (Nj 4 ((m.take (a+n)).drop a)):=by unfold yL Nj;rw[if_pos h,if_pos hn,hd,hn]
 rw[e];exact this
 ):p:=h
theorem rY(h:p:=by
 go_wp2_with fail;refine(Ds _).mono ?_;rintro _ w4 ⟨rfl,b4⟩;go_wp2_with fail;go_ret;exact uI.mk J (um H3 H3.size b4)
 ):p:=h
theorem rZ(h:p:=by
 refine wpQuiet_nil ?_;intro w4 hB4;have HB4:=um HB3 HB3.size hB4;clear B3 HB3 hB4;go_wp2_with fail;go_ret2;exact uI.mk J HB4
 ):p:=h
theorem r7(h:p:=by
 go_wp2_with fail;go_roundw
 case rel=>exact⟨k+1,I,gp,by rw[U2.out];exact HO.out,hB⟩
 case measure=>simp[intOf];omega
 ):p:=h
theorem r8(h:p:=by
 clear K;go_wp2_with fail;go_meet
 case rel=>exact⟨τ',k10,B10⟩
 ):p:=h
theorem sf(h:p:=by
 go_wp2_with fail;go_ret;rw[HT.out];exact FIN.out
 ):p:=h
theorem sg(h:p:=by
 have e1:((cs.drop 4).take 18)[0]?=cs[4]?:=by rw[List.getElem?_take_of_lt I,List.getElem?_drop]
 rw[<-e1,MA.out];rfl
 ):p:=h
theorem sj(h:p:=by simp only[List.size_toArray,List.length_append,List.length_take,List.length_drop,Array.length_toList,v9];omega):p:=h
theorem sk(h:p:=by
 go_wp2_with fail;go_ret;exact⟨_,J,um H1 H1.size K⟩
 ):p:=h
theorem sm(h:p:=by
 go_wp2_with fail;go_ret;refine⟨_,J,?_,hB⟩;have e:((l.take k).filter p).length=m:=I;rw[Gl e];exact HO.out
 ):p:=h
theorem sq(h:p:=by
 go_wp2_with fail;go_roundw
 case rel=>exact⟨k+1,I,gp,by rw[HES.out],trivial⟩
 case measure=>simp[intOf];omega
 ):p:=h
theorem ss(h:p:=by
 rw[List.take_succ_eq_append_getElem z,Hr,h];show(if(xh y (xN l[k])).2 then _ else _)=_;rw[hf];rfl
 ):p:=h
theorem sx(h:p:=by
 rw[if_neg bf];have:=ih (k:=k) bh (fun j hj hjk=>by have:=h (j+1) aA I;simpa using this) aM;simpa using this
 ):p:=h
theorem sy(h:p:=by
 have:=World.size_alloc (w:=W.drew) (o:=.cells qZ.toArray 28);have X:W.drew.heap.size=W.heap.size:=rfl;omega
 ):p:=h
theorem sA(h:p:=by
 go_wp2_with fail;go_ret;exact uI.mk J HBr
 ):p:=h
theorem sB(h:p:=by
 intro r hr e;obtain⟨j,hj,U,_⟩:=Xg hr;have:=congrArg List.length (U.symm.trans e);simp at this;omega
 ):p:=h
theorem sC(h:p:=by
 simp only[yo,Bool.and_eq_true,decide_eq_true_eq]at h;rw[X];exact Int.emod_eq_of_lt h.1 (by have:=h.2;omega)
 ):p:=h
theorem sD(h:p:=by
 rw[Array.toArray_toList]at this;exact this
 ):p:=h
theorem sE(h:p:=by
 refine(AC.out _).mono ?_;rintro _ w1 ⟨rfl,b1⟩;go_wp2_with fail;go_ret;exact uI.mk cL (um HB HB.size b1)
 ):p:=h
theorem sF(h:p:=by show x.cl.toNat*(3*(x.tr.length-x.k-1))<=_;omega):p:=h
theorem sG(h:p:=by
 rw[if_neg (by simp[ht])]at hE;by_cases U:uE r.ml=0
 ·exact U
 ·rw[if_pos U]at hE;exact hE
 ):p:=h
theorem sH(h:p:=by
 go_wp2_with fail;refine C.mono ?_;rintro _ w1 ⟨rfl,rfl⟩;go_wp2_with fail;go_ret2;exact xX.mk J J
 ):p:=h
theorem sI(h:p:=by exact⟨An,cn,At,ct,Am,cm,J,⟨J,hr.2⟩,hN.G hB,hT.G hB,hM.G hB,agn⟩):p:=h
theorem sJ(h:p:=by
 subst this;unfold F at Z;rw[hh]at Z;injection Z with Z;injection Z with _ ht;exact hne ht.symm
 ):p:=h
theorem sK(h:p:=by
 intro hi;rcases NZ hi with⟨s',h,_⟩|⟨h,_⟩
 ·rw[e]at h;cases h
 ·rwa[e]at h
 ):p:=h
theorem sL(h:p:=by
 unfold yS Py;split
 ·
  next h0=>have:=(xj h0).2;simp[wA];omega
 ·simp
 ):p:=h
theorem sM(h:p:=by
 rw[this,hd];simp only[vX,vG.cells,Bl,List.append_assoc,List.cons_append];rfl
 ):p:=h
theorem sN(h:p:=by
 rcases ahv.2 with⟨_,h0⟩|⟨g,cap,_,hv,_⟩
 ·omega
 ·exact⟨g,cap,hv⟩
 ):p:=h
theorem sO(h:p:=by
 simp[Eh]at hbd;have:=hbd.1;have:0<n[k].length:=List.length_pos_iff.2 this;omega
 ):p:=h
theorem sP(h:p:=by
 rintro e w2 ⟨rfl,hg⟩;go_wp2_with fail;exact⟨J,J,Lh hB1 hg hg1 uw⟩
 ):p:=h
theorem sQ(h:p:=by
 unfold execOp;simp only[ho,hx,hy,Sem.run_bind,hst,Result.andThen_ok,Sem.run_pure]
 ):p:=h
theorem sR(h:p:=by
 unfold execOp;simp only[ho,hx,Sem.run_bind,hv w hC,Result.andThen_ok,Sem.run_pure]
 ):p:=h
theorem sS(h:p:=by
 rintro e w1 ⟨rfl,b1⟩;go_wp2_with fail;go_ret2;exact uI.mk J (um ax aA b1)
 ):p:=h
theorem sT(h:p:=by exact⟨An,cn,none,0,Am,cm,J,hr,hN.G hB,xE.nil _,hM.G hB,agn⟩):p:=h
theorem sU(h:p:=by
 unfold execOp;simp only[ho,hx,hy,Sem.run_bind,hr,Result.andThen_ok,Sem.run_pure]
 ):p:=h
theorem sV(h:p:=by
 refine⟨uo++[cs],?_,(h.Xs hr).mono (fun _ _ x=>x.uH hs)⟩;simpa using ho
 ):p:=h
theorem sX(h:p:=by
 have:(zW (l.take k) n O N).length<=(l.take k).length:=mI;simp at this;omega
 ):p:=h
theorem sY(h:p:=by
 go_wp2_with fail;go_ret;exact⟨_,J,vJ.nil _ _,H.out,World.grownBy.refl _ _⟩
 ):p:=h
theorem sZ(h:p:=by
 split at h
 ·rename_i ht;injection h with h;subst h;exact Xv ht
 ·cases h
 ):p:=h
theorem s9(h:p:=by
 unfold execOp;simp only[ho,hx,Sem.run_bind,hv,Result.andThen_ok,Sem.run_pure]
 ):p:=h
theorem td(h:p:=by
 unfold execOp;simp only[ho,hv,Sem.run_bind,hr,Result.andThen_ok,Sem.run_pure]
 ):p:=h
theorem te(h:p:=by show 3*(x.tr.length-x.k-1)<=_;omega):p:=h
theorem tf(h:p:=by
 go_wp2_with fail;go_ret2;exact uI.mk J HBr
 ):p:=h
theorem th(h:p:=by
 go_wp2_with fail;go_ret;exact uI.mk J HB1
 ):p:=h
theorem ti(h:p:=by
 clear U X SET auj;go_enter func198,ntmps198;go_wp2_with fail;go_end0;exact S.out
 ):p:=h
theorem tj(h:p:=by
 subst hd;unfold wpOp;simp only[hi,hw,if_true];left;unfold Oper.wp;rw[he];exact h
 ):p:=h
theorem tm(h:p:=by
 rw[if_neg bf];exact ih (fun j hj=>by have:=h (j+1) aA;simpa using this)
 ):p:=h
theorem tn(h:p:=by
 go_wp2_with fail;go_ret;exact⟨J,J⟩
 ):p:=h
theorem tp(h:p:=by
 subst e1;unfold Pu;go_wp2_with fail;go_ret3;exact⟨_,J,hT,hB,HOB.out⟩
 ):p:=h
theorem tq(h:p:=by
 rw[hro]at d6;go_wp2_with fail;go_meet
 case rel=>exact⟨by rw[hro],J⟩
 ):p:=h
theorem tu(h:p:=by
 go_wp2_with fail;go_meet
 case rel=>exact⟨gz,es2,J,J,Ba,hMa,K⟩
 ):p:=h
theorem tv(h:p:=by exact⟨v,D',J,HX2.out⟩):p:=h
theorem tw(h:p:=by
 go_wp2_with fail;go_meet
 case rel=>exact⟨_,lo,ho,B1,B2,B3,KO,H⟩
 ):p:=h
theorem tx(h:p:=by
 obtain⟨qs,S,_⟩:=HQ.out.s;have:=S.nl;have:=z9 x.q.name;omega
 ):p:=h
theorem tz(h:p:=by exact⟨v',w',hr,X,h3⟩):p:=h
theorem tC(h:p:=by exact uI.mk J (((Below.refl _ _).alloc (Nat.le_refl _) _).alloc ap _)):p:=h
theorem tD(h:p:=by
 by_cases U:uE r.tg=0
 ·exact U
 ·rw[if_pos U]at hE;exact hE
 ):p:=h
theorem tE(h:p:=by
 rw[hh]at b1';injection b1' with b1';injection b1' with _ b1';exact n1 b1'
 ):p:=h
theorem tF(h:p:=by
 clear he hr;go_wp2_with fail;go_ret;exact uI.mk (yE HR.out.symm) hB
 ):p:=h
theorem tG(h:p:=by rw[if_pos U]at h;exact absurd h U):p:=h
theorem tH(h:p:=by
 have:=h (k+i) (by simp at hi;omega);rw[Nat.add_assoc,this];simp
 ):p:=h
theorem tI(h:p:=by
 subst b2 b3 b4 b5 b6 b7 b8;unfold Wq;simp only[RR.zero];rw[<-e]
 ):p:=h
theorem tJ(h:p:=by
 go_wp2_with fail;go_meet
 case rel=>exact⟨by rw[hr1.out],J⟩
 ):p:=h
theorem tK(h:p:=by
 go_wp2_with fail;go_ret2;exact HX9.out
 ):p:=h
theorem tL(h:p:=by exact decide_eq_false (adj aB hlb (of_decide_eq_false hs.out))):p:=h
theorem tM(h:p:=by
 split
 ·intro h;cases h
 ·exact h
 ):p:=h
theorem tN(h:p:=by
 go_wp2_with fail;go_ret;exact⟨false,J,fun h=>dZ,hW⟩
 ):p:=h
theorem tO(h:p:=by
 go_wp2_with fail;go_ret;exact xX.mk (z7 HN.out.symm) J
 ):p:=h
theorem tP(h:p:=by
 go_wp2_with fail;go_ret;exact xX.mk (by rw[HK2.out];rfl) J
 ):p:=h
theorem tQ(h:p:=by
 go_wp2;all_goals go_ret
 all_goals exact xX.mk (yE ar) J
 ):p:=h
theorem tR(h:p:=by
 have e:yL m a n O N= .error 5:=my;rw[e];exact this
 ):p:=h
theorem tS(h:p:=by
 have e:yL m a n O N= .error 5:=lz;rw[e];exact this
 ):p:=h
theorem tT(h:p:=by
 have e:yL m a n O N= .error 5:=jK;rw[e];exact this
 ):p:=h
theorem tU(h:p:=by
 rw[h]at this;exact this
 ):p:=h
theorem tV(h:p:=by
 go_wp2_with fail;go_ret;rw[<-HS.out];exact⟨J,J⟩
 ):p:=h
theorem tW(h:p:=by
 go_wp2_with fail;go_ret;exact⟨_,J,fun h=>dZ,H1⟩
 ):p:=h
theorem tX(h:p:=by
 go_wp2_with fail;go_ret2;exact NW HO.out aX hT2 hB3
 ):p:=h
theorem tY(h:p:=by
 rw[HF3.out];exact⟨_,_,_,_,_,_,_,_,J,H7⟩
 ):p:=h
theorem tZ(h:p:=by
 rw[if_pos hc,if_pos hc,hc];exact⟨J,h5,h6⟩
 ):p:=h
theorem ud(h:p:=by
 rw[HQ.out];exact O5.vj (vp _ _ _ _) E3 az
 ):p:=h
theorem ue(h:p:=by
 obtain⟨_,o4,_⟩:=O3;exact uK.own o4 az g5
 ):p:=h
theorem uf(h:p:=by
 simp only[Addr.mk.injEq,true_and,and_true];omega
 ):p:=h
theorem ug(h:p:=by obtain⟨b,_,rfl⟩:=List.mem_map.1 hv;rfl):p:=h
theorem uh(h:p:=by
 go_wp2_with fail;go_ret;exact⟨_,J,OO,K⟩
 ):p:=h
theorem ui(h:p:=by exact FIN.out _ (below_drewN (Below.refl _ _) _)):p:=h
theorem uj(h:p:=by
 go_wp2_with fail;go_ret;exact⟨J,R1,R3⟩
 ):p:=h
theorem uk(h:p:=by rw[<-Bool.not_eq_true,ze];omega):p:=h
end
theorem lsA{α:Type _}(l:List α)(i:Nat)(a:α):l.toArray.setIfInBounds i a=(l.set i a).toArray:=List.setIfInBounds_toArray ..
theorem lsB{α:Type _}(x:α)(l:List α)(a:α):(x::l).set 0 a=a::l:=List.set_cons_zero ..
theorem lsC{α:Type _}(x:α)(l:List α)(n:Nat)(a:α):(x::l).set (n+1) a=x::l.set n a:=List.set_cons_succ ..
theorem wP{L:List Value}{n:Nat}(h:L.length<=n):(L.drop 0).take n=L:=by rw[List.drop_zero,List.take_of_length_le h]
theorem Y{p:Prop}(h:p):RowKit.Hid p:=Lib.hid h
open _root_.Go.Proofs.Tryz
open Go.RowKit
theorem E:(∀(l:List Value) ds (i:Nat) v,Act.put ⟨l.toArray,ds⟩ (some i) v=⟨(l.set i v).toArray,ds⟩)/\(∀a v,Act.put a none v=a)/\(∀(x:Value) l a,(x::l).set 0 a=a::l)/\∀(x:Value) l (n:Nat) a,(x::l).set (n+1) a=x::l.set n a:=⟨fun l ds i v=>by simp[Act.put],fun _ _=>rfl,fun _ _ _=>rfl,fun _ _ _ _=>rfl⟩
abbrev al(w w2:World):Prop:=Below w.heap.size w w2
theorem ao{α:Sort _}(a:α):∃b,Hid (a=b):=⟨a,Lib.hid J⟩
def xX(v:Value)(w:World)(e:Ending)(w':World):Prop:=e= .returned v/\w=w'
def uI(v:Value)(w:World)(e:Ending)(w':World):Prop:=e= .returned v/\al w w'
theorem xX.mk{e:Ending}(h:e= .returned v)(hw:w=w'):xX v w e w':=⟨h,hw⟩
theorem uI.mk{e:Ending}(h:e= .returned v)(hw:al w w'):uI v w e w':=⟨h,hw⟩
theorem xX.toB{e:Ending}(h:xX v w e w'):uI v w e w':=⟨h.1,h.2▸Below.refl _ _⟩
theorem xX.quiet{f:FuncId}{args:Array Value}{n:Nat}(h:Calls P f args (w.drewN n) (xX v (w.drewN n))):Calls P f args (w.drewN n) fun e w''=>e= .returned v/\∃m,w''=w.drewN m:=
 h.mono fun _ _ ⟨he,hm⟩=>⟨he,n,hm.symm⟩
theorem IY{A W w1:World}(h:al A W)(b:al W w1):al A w1:=h.trans (b.mono h.size)
theorem yE{k:IntKind}{a b:Int}(h:a=b):Ending.returned (.int k a)= .returned (.int k b):=by rw[h]
theorem z7{a b:Bool}(h:a=b):Ending.returned (.bool a)= .returned (.bool b):=by rw[h]
theorem below_drewN(h:Below B a w)(n:Nat):Below B a (w.drewN n):=⟨h.os,h.tape,h.output,h.size,h.block⟩
theorem um(h:Below B a w)(hB:B<=w.heap.size)(k:al w w'):Below B a w':=h.trans (k.mono hB)
theorem wI(h:Below B a w)(hB:B<=a.heap.size):B<=w.heap.size:=Nat.le_trans hB h.size
theorem Hf(w:World){a:Act}{Q:Exit->Act->World->Prop}(hgd:o.guard=none)(s x:Operand)(t:TypeId)
  (ho:o.op= .call {callee:=.builtin .append,args:= #[s,x],argTypes:= #[t,t]})
  (e:TypeId) (abx:Value) (size bytes:Nat) (ht:P.underlying t=some (.slice e)) (hi:(P.info? e).map (fun i=>(i.zero,i.size,i.bytes))=some (some abx,size,bytes)) (hzs:abx.cells.size=size) (hsz:0<size)
  (v:Value) (n:Nat) (xs:List Value) (hs:a.eval s=v) (adU:w.ownsRow 0 e size v n xs)
  (ad:Addr) (m c:Nat) (news:List Value) (hx:a.eval x= .slice (some ad) m c) (hl:news.length=m*size) (alR:∀j u,news[j]?=some u->w.cell? (ad.add j)=some u) (U:∀u∈news,u.oneCell'=true)
  (hm:0<m) (h63:n+m<=maxLen) (agF:(n+m)*bytes<=140737488355328)
  (h:∀g cap w',w'.ownsRow 0 e size (.slice (some ⟨g,0,none⟩) (n+m) cap) (n+m) (xs++news)->w.grownBy w' v.ownBlock->(v.ownBlock=some g\/g=w.heap.size)->wpList P ops Q rest (a.put o.dst (.slice (some ⟨g,0,none⟩) (n+m) cap)) w'):
  wpList P ops Q (o::rest) a w:=by
 obtain⟨i,hi,hz,adh,hby⟩:=info_parts hi;refine wpList_append_own_at w hgd s x t ho 0 e i abx size bytes ht hi hz adh hby hzs hsz v n xs hs adU ad m c news hx hl alR U h63 agF (Nat.zero_le _) ?_;intro v' w' ahv hg _ hat;obtain⟨g,cap,rfl⟩:∃g cap,v'= .slice (some ⟨g,0,none⟩) (n+m) cap:=by exact sN
 refine h g cap w' ahv hg ?_;rcases hat with h|h
 ·exact .inl h.symm
 ·exact .inr (by simpa[Value.ownBlock]using h)
theorem y8{row:Option Nat}(h:w.grownBy w' row)(p:Addr)(hp:p.block<w.heap.size)(hr:some p.block≠row):w'.cell? p=w.cell? p:=World.cell?_of_block (h.block _ hp hr)
theorem uC{b c:World}{row aoU:Option Nat}(h:a.grownBy b row)(k:b.grownBy c aoU)(hr:aoU=row\/∀g,aoU=some g->a.heap.size<=g):a.grownBy c row:=
 ⟨k.os.trans h.os,k.tape.trans h.tape,k.output.trans h.output,Nat.le_trans h.size k.size,fun i hi hne=>(k.block i (Nat.lt_of_lt_of_le hi h.size) (by
  rcases hr with rfl|hr
  ·exact hne
  ·
   intro e;have:=hr i e.symm;omega)).trans (h.block i hi hne)⟩
def F(w:World)(g:Nat)(t:TypeId)(cs:List Value):Prop:=w.heap[g]?=some (.cells cs.toArray t (0,0))
section
variable {w w':World} {g:Nat} {t:TypeId} {cs:List Value}
theorem F.lt(h:F w g t cs):g<w.heap.size:=by
 rcases Nat.lt_or_ge g w.heap.size with aB|hge
 ·exact aB
 ·unfold F at h;rw[Array.getElem?_eq_none hge]at h;cases h
theorem F.cell(h:F w g t cs)(i:Nat):w.cell? ⟨g,i,none⟩=cs[i]?:=by
 rw[cell_of_row w g i cs.toArray t (0,0) h];simp
theorem F.M(h:F w g t cs)(i:Nat)(hi:cs[i]?=some u):w.cell? ⟨g,i,none⟩=some u:=(h.cell i).trans hi
theorem F.frozen(h:F w g t cs)(i:Nat):w.frozen? ⟨g,i,none⟩=false:=by
 unfold F at h;simp[World.frozen?,h]
theorem F.new(w:World)(t:TypeId)(cs:List Value):F (w.alloc (.cells cs.toArray t)) w.heap.size t cs:=heap_alloc_new w _
theorem F.wE(w:World)(t:TypeId)(cs:List Value)(k:Nat)(z:k=w.heap.size):F (w.alloc (.cells cs.toArray t)) k t cs:=z▸heap_alloc_new w _
theorem F.drew(h:F w g t cs):F w.drew g t cs:=h
theorem F.drewN(h:F w g t cs)(n:Nat):F (w.drewN n) g t cs:=h
theorem F.alloc(h:F w g t cs)(o:Obj):F (w.alloc o) g t cs:=(Below.heap_alloc w o g h.lt).trans h
theorem F.set(h:F w g t cs)(i:Nat)(u:Value):F (w.setCell ⟨g,i,none⟩ u) g t (cs.set i u):=by
 unfold F at h⊢;simp[World.setCell,Array.getElem?_modify,h]
theorem F.y7(h:F w g t cs){p:Addr}(hp:g≠p.block)(u:Value):F (w.setCell p u) g t cs:=(Below.heap_setCell w p u g hp).trans h
theorem F.G(h:F w g t cs)(Z:Below B w w')(hg:g<B):F w' g t cs:=(Z.block g hg).trans h
theorem F.grown{row:Option Nat}(h:F w g t cs)(Z:w.grownBy w' row)(hg:some g≠row):F w' g t cs:=(Z.block g h.lt hg).trans h
end
theorem uS(h:a.grownBy w (some g))(i:Nat)(u:Value):a.grownBy (w.setCell ⟨g,i,none⟩ u) (some g):=
 ⟨h.os,h.tape,h.output,by simpa[World.setCell]using h.size,fun i' hi hne=>(Below.heap_setCell w _ u i' (by simp only;intro e;exact hne (by rw[e]))).trans (h.block i' hi hne)⟩
theorem zN{row:Option Nat}(h:a.grownBy w row)(o:Obj):a.grownBy (w.alloc o) row:=
 ⟨h.os,h.tape,h.output,Nat.le_trans h.size ap,fun i hi hne=>(Below.heap_alloc w o i (Nat.lt_of_lt_of_le hi h.size)).trans (h.block i hi hne)⟩
theorem yv{row:Option Nat}(h:a.grownBy w row):a.grownBy w.drew row:=⟨h.os,h.tape,h.output,h.size,h.block⟩
theorem yt{row:Option Nat}(h:a.grownBy w row)(n:Nat):a.grownBy (w.drewN n) row:=⟨h.os,h.tape,h.output,h.size,h.block⟩
theorem vR{row:Option Nat}(h:a.grownBy w row)(Z:al w w'):a.grownBy w' row:=
 ⟨Z.os.trans h.os,Z.tape.trans h.tape,Z.output.trans h.output,Nat.le_trans h.size Z.size,fun i hi hne=>(Z.block i (Nat.lt_of_lt_of_le hi h.size)).trans (h.block i hi hne)⟩
theorem uq(h:Below B a w)(hg:w.grownBy w' (some g))(hB:B<=w.heap.size)(hr:B<=g):Below B a w':=
 h.grown hg hB (fun k z=>by injection z with z;omega)
theorem uM(h:al a w)(row:Option Nat):a.grownBy w row:=⟨h.os,h.tape,h.output,h.size,fun i hi _=>h.block i hi⟩
theorem Cg(w:World)(u:Value)(t:TypeId)(k:Nat)(z:k=w.heap.size):∀j x,[u][j]?=some x->(w.alloc (.cells #[u] t)).cell? ((⟨k,0,none⟩:Addr).add j)=some x:=by
 subst z;intro j x hx;rcases j with _|j
 ·simp at hx;subst hx;simp[Addr.add,go_sem]
 ·simp at hx
theorem zO(h:u.oneCell'=true):∀x∈[u],x.oneCell'=true:=by simpa using h
def bs(l:List UInt8):ByteArray:=⟨l.toArray⟩
theorem aeL(s:ByteArray):s=bs s.data.toList:=by cases s;simp[bs]
@[go_sem,simp] theorem xK(l:List UInt8):(bs l).size=l.length:=by simp[bs,ByteArray.size]
theorem aby(l:List UInt8):(bs l).data.toList=l:=by simp[bs]
@[go_sem] theorem KN(a b:List UInt8):bs a++bs b=bs (a++b):=by unfold bs;rw[ByteArray.mk_append_mk]
@[go_sem] theorem adv(a b:List UInt8):bs a++⟨b.toArray⟩=bs (a++b):=KN a b
@[go_sem] theorem adw(a b:List UInt8):(⟨a.toArray⟩:ByteArray)++bs b=bs (a++b):=KN a b
@[go_sem] theorem adx(l:List UInt8)(i j:Nat):(bs l).extract i j=bs ((l.take j).drop i):=by
 unfold bs;rw[ByteArray.extract_mk,List.drop_take]
@[go_sem] theorem ady(l:List UInt8)(i:Nat)(h:i<(bs l).size):(bs l)[i]=l[i]'aq:=rfl
theorem toList_mk(l:List UInt8):ByteArray.toList ⟨l.toArray⟩=l:=by rw[ByteArray.toList_eq]
@[go_sem] theorem NG(l:List UInt8):(bs l).toList=l:=toList_mk l
def Byt(w:World)(g off:Nat)(l:List UInt8):Prop:=∀j (hj:j<l.length),w.cell? ⟨g,off+j,none⟩=some (.int .u8 (l[j].toNat:Int))
theorem Byt.uG{off:Nat}{l:List UInt8}(h:Byt w g off l)(j:Nat)(hj:j<l.length):w.cell? ⟨g,off+j,none⟩=some (.int .u8 (l[j].toNat:Int)):=h j hj
theorem KP(w:World){a:Act}{Q:Exit->Act->World->Prop}(hgd:o.guard=none)(x:Operand)(src dst e:TypeId)
  (ho:o.op= .convert src dst x) (hs:P.underlying src=some .string) (hd:P.underlying dst=some (.slice e)) (he:P.underlying e=some (.int .u8)) (l:List UInt8) (hx:a.eval x= .string (bs l))
  (h:∀cap w',l.length<=cap->Byt w' w.heap.size 0 l->al w w'->w'.heap.size=w.heap.size+1->wpList P ops Q rest (a.put o.dst (.slice (some ⟨w.heap.size,0,none⟩) l.length cap)) w'):
  wpList P ops Q (o::rest) a w:=by
 refine wpList_plain hgd fun hb hK=>?_
 have hr:=run_bytes_of_string (P:=P) w src dst e (bs l) hs hd he;rw[xK]at hr;generalize agT:grownCap w l.length 0 e=cap at hr;have hle:l.length<=cap:=by rw[<-agT];unfold grownCap;simp[Question.cut]
 unfold Oper.wp;simp[execOp,ho,hx,hr,Result.andThen];refine hK _ _ (h cap _ hle ?_ ?_ ?_)
 ·intro j hj;have e1:=World.cell?_alloc_mark w.drew (bytesRow (bs l) cap) e ((bytesRow (bs l) cap).size,(bytesRow (bs l) cap).size+1) (0+j);rw[show w.drew.heap.size=w.heap.size from J]at e1;rw[e1,Nat.zero_add,bytesRow_at (bs l) cap j (by simpa[bs]using hj)];simp[bs]
 ·exact((Below.refl _ _).drew).alloc (Nat.le_refl _) _
 ·simp
set_option maxRecDepth 100000
def hw(width:Int):Nat:=if width<0 then 0 else if 4<width then 4 else width.toNat
theorem YQ(width:Int):hw width<=4:=by unfold hw;split<;>(try split)<;>omega
def uA:Nat->Int->List UInt8
 |0,_=>[]
 |k+1,n=>uA k (n/256)++[UInt8.ofNat (n%256).toNat]
theorem uy(k:Nat):∀n:Int,(uA k n).length=k:=by
 induction k with
 |zero=>intro n;rfl
 |succ k ih=>intro n;simp[uA,ih]
def vw(l:List UInt8):Nat:=l.foldl (fun n c=>256*n+c.toNat) 0
theorem NJ(l:List UInt8)(c:UInt8):vw (l++[c])=256*vw l+c.toNat:=by simp[vw]
theorem abz(l:List UInt8):vw l<256^l.length:=by
 have h:∀(l:List UInt8) (n k:Nat),n<256^k->l.foldl (fun n c=>256*n+c.toNat) n<256^(k+l.length):=by
  intro l;induction l with
  |nil=>intro n k h;simpa using h
  |cons c l ih=>intro n k h;have hc:=c.toNat_lt;have U:=ih (256*n+c.toNat) (k+1) (by rw[Nat.pow_succ];omega);rw[List.foldl_cons,List.length_cons,show k+(l.length+1)=k+1+l.length by omega];exact U
 simpa[vw]using h l 0 0 ap
theorem DD(n:Int)(w:World):Calls prog 172 #[.int .i64 n] w (xX (.int .i64 (hw n)) w):=by
 go_enter func172,ntmps172;exact tQ
theorem wF(n:Int)(w:World):Calls prog 126 #[.int .i64 n] w (xX (.int .i64 (hw n)) w):=by
 go_enter func126,ntmps126;exact tQ
theorem DF(w:World)(t:TypeId)(k:IntKind)(xs:List Int):∀i,i<xs.length->(w.alloc (.cells (xs.map (Value.int k)).toArray t)).cell? ⟨w.heap.size,0+i,none⟩=some (.int k (xs.getD i 0)):=by
 intro i hi;rw[(F.new w t (xs.map (Value.int k))).cell];simp[List.getD,List.getElem?_eq_getElem hi]
theorem aeM(width n:Int)(w:World)(h:hw width=0):Calls prog 117 #[.int .i64 width,.int .i64 n] w (uI (.string (bs (uA 0 n))) w):=by
 have hmk:∀w:World,(Instr.makeSlice 145 (.int .i64 0) (.int .i64 0)).run prog w= .ok (.slice (some ⟨w.heap.size,0,none⟩) 0 0) (w.alloc (.cells #[] 5)):=fun _=>by kernel_rfl
 have hcv:(convert 145 9 (.slice (some ⟨w.heap.size,0,none⟩) 0 0)).run prog (w.alloc (.cells #[] 5))= .ok (.string (bs (uA 0 n))) (w.alloc (.cells #[] 5)):=
  run_convert_bytes_arg _ 145 5 underlying145 underlying5 _ 0 0 0 [] J (DF w _ _ []) 9 underlying9
 have H:=Lib.hid h;clear h;go_enter func117,ntmps117;go_wp2_with fail;refine(DD _ _).mono ?_;rintro e w' ⟨rfl,rfl⟩;rw[H.out,show((0:Nat):Int)=0 from J];go_wp2_with fail;refine wp_loop_rounds 1 ?_;rw[rounds_succ];exact pS
theorem aeN(width n:Int)(w:World)(h:hw width=1):Calls prog 117 #[.int .i64 width,.int .i64 n] w (uI (.string (bs (uA 1 n))) w):=by
 have hmk:∀w:World,(Instr.makeSlice 145 (.int .i64 1) (.int .i64 1)).run prog w= .ok (.slice (some ⟨w.heap.size,0,none⟩) 1 1) (w.alloc (.cells #[.int .u8 0] 5)):=fun _=>by kernel_rfl
 have hcv:(convert 145 9 (.slice (some ⟨w.heap.size,0,none⟩) 1 1)).run prog (w.alloc (.cells #[.int .u8 (n%256)] 5))= .ok (.string (bs (uA 1 n))) (w.alloc (.cells #[.int .u8 (n%256)] 5)):=
  run_convert_bytes_arg _ 145 5 underlying145 underlying5 _ 0 1 1 [n%256] J (DF w _ _ [n%256]) 9 underlying9
 have H:=Lib.hid h;clear h;go_enter func117,ntmps117;go_wp2_with fail;refine(DD _ _).mono ?_;rintro e w' ⟨rfl,rfl⟩;rw[H.out,show((1:Nat):Int)=1 from J];go_wp2_with fail;refine wp_loop_rounds 2 ?_;rw[rounds_succ];go_wp2_with fail;rw[rounds_succ];exact pS
theorem aeO(width n:Int)(w:World)(h:hw width=2):Calls prog 117 #[.int .i64 width,.int .i64 n] w (uI (.string (bs (uA 2 n))) w):=by
 have hmk:∀w:World,(Instr.makeSlice 145 (.int .i64 2) (.int .i64 2)).run prog w= .ok (.slice (some ⟨w.heap.size,0,none⟩) 2 2) (w.alloc (.cells #[.int .u8 0,.int .u8 0] 5)):=fun _=>by kernel_rfl
 have hcv:(convert 145 9 (.slice (some ⟨w.heap.size,0,none⟩) 2 2)).run prog (w.alloc (.cells #[.int .u8 (n/256%256),.int .u8 (n%256)] 5))= .ok (.string (bs (uA 2 n))) (w.alloc (.cells #[.int .u8 (n/256%256),.int .u8 (n%256)] 5)):=
  run_convert_bytes_arg _ 145 5 underlying145 underlying5 _ 0 2 2 [n/256%256,n%256] J (DF w _ _ [n/256%256,n%256]) 9 underlying9
 have H:=Lib.hid h;clear h;go_enter func117,ntmps117;go_wp2_with fail;refine(DD _ _).mono ?_;rintro e w' ⟨rfl,rfl⟩;rw[H.out,show((2:Nat):Int)=2 from J];go_wp2_with fail;refine wp_loop_rounds 3 ?_;rw[rounds_succ];go_wp2_with fail;rw[rounds_succ];go_wp2_with fail;rw[rounds_succ];exact pS
theorem aeP(width n:Int)(w:World)(h:hw width=3):Calls prog 117 #[.int .i64 width,.int .i64 n] w (uI (.string (bs (uA 3 n))) w):=by
 have hmk:∀w:World,(Instr.makeSlice 145 (.int .i64 3) (.int .i64 3)).run prog w= .ok (.slice (some ⟨w.heap.size,0,none⟩) 3 3) (w.alloc (.cells #[.int .u8 0,.int .u8 0,.int .u8 0] 5)):=fun _=>by kernel_rfl
 have hcv:(convert 145 9 (.slice (some ⟨w.heap.size,0,none⟩) 3 3)).run prog (w.alloc (.cells #[.int .u8 (n/256/256%256),.int .u8 (n/256%256),.int .u8 (n%256)] 5))= .ok (.string (bs (uA 3 n))) (w.alloc (.cells #[.int .u8 (n/256/256%256),.int .u8 (n/256%256),.int .u8 (n%256)] 5)):=
  run_convert_bytes_arg _ 145 5 underlying145 underlying5 _ 0 3 3 [n/256/256%256,n/256%256,n%256] J (DF w _ _ [n/256/256%256,n/256%256,n%256]) 9 underlying9
 have H:=Lib.hid h;clear h;go_enter func117,ntmps117;go_wp2_with fail;refine(DD _ _).mono ?_;rintro e w' ⟨rfl,rfl⟩;rw[H.out,show((3:Nat):Int)=3 from J];go_wp2_with fail;refine wp_loop_rounds 4 ?_;rw[rounds_succ];go_wp2_with fail;rw[rounds_succ];go_wp2_with fail;rw[rounds_succ];go_wp2_with fail;rw[rounds_succ];exact pS
theorem aeQ(width n:Int)(w:World)(h:hw width=4):Calls prog 117 #[.int .i64 width,.int .i64 n] w (uI (.string (bs (uA 4 n))) w):=by
 have hmk:∀w:World,(Instr.makeSlice 145 (.int .i64 4) (.int .i64 4)).run prog w= .ok (.slice (some ⟨w.heap.size,0,none⟩) 4 4) (w.alloc (.cells #[.int .u8 0,.int .u8 0,.int .u8 0,.int .u8 0] 5)):=fun _=>by kernel_rfl
 have hcv:(convert 145 9 (.slice (some ⟨w.heap.size,0,none⟩) 4 4)).run prog (w.alloc (.cells #[.int .u8 (n/256/256/256%256),.int .u8 (n/256/256%256),.int .u8 (n/256%256),.int .u8 (n%256)] 5))= .ok (.string (bs (uA 4 n))) (w.alloc (.cells #[.int .u8 (n/256/256/256%256),.int .u8 (n/256/256%256),.int .u8 (n/256%256),.int .u8 (n%256)] 5)):=
  run_convert_bytes_arg _ 145 5 underlying145 underlying5 _ 0 4 4 [n/256/256/256%256,n/256/256%256,n/256%256,n%256] J (DF w _ _ [n/256/256/256%256,n/256/256%256,n/256%256,n%256]) 9 underlying9
 have H:=Lib.hid h;clear h;go_enter func117,ntmps117;go_wp2_with fail;refine(DD _ _).mono ?_;rintro e w' ⟨rfl,rfl⟩;rw[H.out,show((4:Nat):Int)=4 from J];go_wp2_with fail;refine wp_loop_rounds 5 ?_;rw[rounds_succ];go_wp2_with fail;rw[rounds_succ];go_wp2_with fail;rw[rounds_succ];go_wp2_with fail;rw[rounds_succ];go_wp2_with fail;rw[rounds_succ];exact pS
theorem wQ(width n:Int)(w:World):Calls prog 117 #[.int .i64 width,.int .i64 n] w (uI (.string (bs (uA (hw width) n))) w):=by
 have h:hw width=0\/hw width=1\/hw width=2\/hw width=3\/hw width=4:=ox;rcases h with h|h|h|h|h
 ·rw[h];exact aeM width n w h
 ·rw[h];exact aeN width n w h
 ·rw[h];exact aeO width n w h
 ·rw[h];exact aeP width n w h
 ·rw[h];exact aeQ width n w h
theorem Ib(W:World)(g:Nat)(x:Int)(hg:g=W.heap.size):(convert 145 9 (.slice (some ⟨g,0,none⟩) 1 1)).run prog (W.alloc (.cells #[.int .u8 x] 5))= .ok (.string (bs [UInt8.ofNat x.toNat])) (W.alloc (.cells #[.int .u8 x] 5)):=by
 subst hg;exact run_convert_bytes_arg _ 145 5 underlying145 underlying5 _ 0 1 1 [x] J (DF W _ _ [x]) 9 underlying9
theorem Fb(m n:Int)(h:m=n%18446744073709551616):uA 0 m=uA 0 n/\uA 1 m=uA 1 n/\uA 2 m=uA 2 n/\uA 3 m=uA 3 n/\uA 4 m=uA 4 n:=by
 have e0:m%256=n%256:=I;have e1:m/256%256=n/256%256:=I;have e2:m/256/256%256=n/256/256%256:=I;have e3:m/256/256/256%256=n/256/256/256%256:=I;simp[uA,e0,e1,e2,e3]
theorem YR(width n:Int)(w:World)(h:hw width=0):Calls prog 84 #[.int .i64 width,.int .i64 n] w (uI (.string (bs (uA 0 n))) w):=by
 have H:=Lib.hid h;clear h;go_enter func84,ntmps84;go_wp2_with fail;obtain⟨m,hm⟩:∃m,IntKind.u64.wrap n=m:=gG;rw[hm];rw[IntKind.wrap_u64]at hm;have ul:=Y hm;clear hm;refine wp_loop_rounds 1 ?_;rw[rounds_succ];go_wp2_with fail;refine(wF _ _).mono ?_;rintro e w' ⟨rfl,rfl⟩;rw[H.out,show((0:Nat):Int)=0 from J];go_wp2_with fail;go_ret;rw[<-(Fb m n ul.out.symm).1];exact uI.mk aw ax
theorem YS(width n:Int)(w:World)(h:hw width=1):Calls prog 84 #[.int .i64 width,.int .i64 n] w (uI (.string (bs (uA 1 n))) w):=by
 have hcv:=Ib;have H:=Lib.hid h;clear h;go_enter func84,ntmps84;go_wp2_with fail;obtain⟨m,hm⟩:∃m,IntKind.u64.wrap n=m:=gG;rw[hm];rw[IntKind.wrap_u64]at hm;have hm0:0<=m:=I;have hm1:m<=18446744073709551615:=I;have ul:=Y hm;clear hm;refine wp_loop_rounds 2 ?_;rw[rounds_succ];go_wp2_with fail;refine(wF _ _).mono ?_;rintro e w' ⟨rfl,rfl⟩;rw[H.out,show((1:Nat):Int)=1 from J];go_wp2_with fail;rw[rounds_succ];go_wp2_with fail;refine(wF _ _).mono ?_;rintro e w' ⟨rfl,rfl⟩;rw[H.out,show((1:Nat):Int)=1 from J];go_wp2_with fail;go_ret;rw[<-(Fb m n ul.out.symm).2.1];exact uI.mk aw ax
theorem YT(width n:Int)(w:World)(h:hw width=2):Calls prog 84 #[.int .i64 width,.int .i64 n] w (uI (.string (bs (uA 2 n))) w):=by
 have hcv:=Ib;have H:=Lib.hid h;clear h;go_enter func84,ntmps84;go_wp2_with fail;obtain⟨m,hm⟩:∃m,IntKind.u64.wrap n=m:=gG;rw[hm];rw[IntKind.wrap_u64]at hm;have hm0:0<=m:=I;have hm1:m<=18446744073709551615:=I;have ul:=Y hm;clear hm;refine wp_loop_rounds 3 ?_;rw[rounds_succ];go_wp2_with fail;refine(wF _ _).mono ?_;rintro e w' ⟨rfl,rfl⟩;rw[H.out,show((2:Nat):Int)=2 from J];go_wp2_with fail;rw[rounds_succ];go_wp2_with fail;refine(wF _ _).mono ?_;rintro e w' ⟨rfl,rfl⟩;rw[H.out,show((2:Nat):Int)=2 from J];go_wp2_with fail;rw[rounds_succ];go_wp2_with fail;refine(wF _ _).mono ?_;rintro e w' ⟨rfl,rfl⟩;rw[H.out,show((2:Nat):Int)=2 from J];go_wp2_with fail;go_ret;rw[<-(Fb m n ul.out.symm).2.2.1];exact uI.mk aw ax
theorem YU(width n:Int)(w:World)(h:hw width=3):Calls prog 84 #[.int .i64 width,.int .i64 n] w (uI (.string (bs (uA 3 n))) w):=by
 have hcv:=Ib;have H:=Lib.hid h;clear h;go_enter func84,ntmps84;go_wp2_with fail;obtain⟨m,hm⟩:∃m,IntKind.u64.wrap n=m:=gG;rw[hm];rw[IntKind.wrap_u64]at hm;have hm0:0<=m:=I;have hm1:m<=18446744073709551615:=I;have ul:=Y hm;clear hm;refine wp_loop_rounds 4 ?_;rw[rounds_succ];go_wp2_with fail;refine(wF _ _).mono ?_;rintro e w' ⟨rfl,rfl⟩;rw[H.out,show((3:Nat):Int)=3 from J];go_wp2_with fail;rw[rounds_succ];go_wp2_with fail;refine(wF _ _).mono ?_;rintro e w' ⟨rfl,rfl⟩;rw[H.out,show((3:Nat):Int)=3 from J];go_wp2_with fail;rw[rounds_succ];go_wp2_with fail;refine(wF _ _).mono ?_;rintro e w' ⟨rfl,rfl⟩;rw[H.out,show((3:Nat):Int)=3 from J];go_wp2_with fail;rw[rounds_succ];go_wp2_with fail;refine(wF _ _).mono ?_;rintro e w' ⟨rfl,rfl⟩;rw[H.out,show((3:Nat):Int)=3 from J];go_wp2_with fail;go_ret;rw[<-(Fb m n ul.out.symm).2.2.2.1];exact uI.mk aw ax
theorem YV(width n:Int)(w:World)(h:hw width=4):Calls prog 84 #[.int .i64 width,.int .i64 n] w (uI (.string (bs (uA 4 n))) w):=by
 have hcv:=Ib;have H:=Lib.hid h;clear h;go_enter func84,ntmps84;go_wp2_with fail;obtain⟨m,hm⟩:∃m,IntKind.u64.wrap n=m:=gG;rw[hm];rw[IntKind.wrap_u64]at hm;have hm0:0<=m:=I;have hm1:m<=18446744073709551615:=I;have ul:=Y hm;clear hm;refine wp_loop_rounds 5 ?_;rw[rounds_succ];go_wp2_with fail;refine(wF _ _).mono ?_;rintro e w' ⟨rfl,rfl⟩;rw[H.out,show((4:Nat):Int)=4 from J];go_wp2_with fail;rw[rounds_succ];go_wp2_with fail;refine(wF _ _).mono ?_;rintro e w' ⟨rfl,rfl⟩;rw[H.out,show((4:Nat):Int)=4 from J];go_wp2_with fail;rw[rounds_succ];go_wp2_with fail;refine(wF _ _).mono ?_;rintro e w' ⟨rfl,rfl⟩;rw[H.out,show((4:Nat):Int)=4 from J];go_wp2_with fail;rw[rounds_succ];go_wp2_with fail;refine(wF _ _).mono ?_;rintro e w' ⟨rfl,rfl⟩;rw[H.out,show((4:Nat):Int)=4 from J];go_wp2_with fail;rw[rounds_succ];go_wp2_with fail;refine(wF _ _).mono ?_;rintro e w' ⟨rfl,rfl⟩;rw[H.out,show((4:Nat):Int)=4 from J];go_wp2_with fail;go_ret;rw[<-(Fb m n ul.out.symm).2.2.2.2];exact uI.mk aw ax
theorem wZ(width n:Int)(w:World):Calls prog 84 #[.int .i64 width,.int .i64 n] w (uI (.string (bs (uA (hw width) n))) w):=by
 have h:hw width=0\/hw width=1\/hw width=2\/hw width=3\/hw width=4:=ox;rcases h with h|h|h|h|h
 ·rw[h];exact YR width n w h
 ·rw[h];exact YS width n w h
 ·rw[h];exact YT width n w h
 ·rw[h];exact YU width n w h
 ·rw[h];exact YV width n w h
def AR(w:World)(g:Nat)(rest:List UInt8)(short:Bool):Prop:=F w g 322 [.string (bs rest),.bool short]
def KR(v:Value)(g:Nat)(rest:List UInt8)(short:Bool)(w:World)(e:Ending)(w':World):Prop:=
 e= .returned v/\AR w' g rest short/\w.grownBy w' (some g)
def adz(rest:List UInt8)(w:World)(e:Ending)(w':World):Prop:=
 e= .returned (.pointer (some ⟨w.heap.size,0,none⟩))/\AR w' w.heap.size rest false/\al w w'
theorem Eg(s:List UInt8)(w:World):Calls prog 176 #[.string (bs s)] w (adz s w):=by
 go_enter func176,ntmps176;go_wp2;go_ret;exact⟨J,F.new _ _ [.string (bs s),.bool false],(Below.refl _ _).alloc (Nat.le_refl _) _⟩
def zP(rest:List UInt8)(short:Bool)(n:Int):List UInt8:=if short||decide (rest.length<n.toNat)then[]else rest.take n.toNat
def yZ(rest:List UInt8)(short:Bool)(n:Int):List UInt8:=if short||decide (rest.length<n.toNat)then rest else rest.drop n.toNat
def yQ(rest:List UInt8)(short:Bool)(n:Int):Bool:=short||decide (rest.length<n.toNat)
theorem YW(g:Nat)(rest:List UInt8)(short:Bool)(n:Int)(w:World)(h:AR w g rest short)(hl:rest.length<=maxLen):
  Calls prog 211 #[.pointer (some ⟨g,0,none⟩),.int .i64 n] w (KR (.string (bs (zP rest short n))) g (yZ rest short n) (yQ rest short n) w):=by
 unfold maxLen at hl;have c0:=h.M 0 J;have c1:=h.M 1 J;have f0:=h.frozen 0;have f1:=h.frozen 1;cases short with
 |true=>go_enter func211,ntmps211;go_wp2;go_ret;exact⟨by simp[zP];rfl,by simpa[AR,yZ,yQ]using h,World.grownBy.refl _ _⟩
 |false=>
  by_cases aB:rest.length<n.toNat
  ·have hn:(rest.length:Int)<n:=I;have hn0:0<=n:=I;have T:=Y aB;clear aB;go_enter func211,ntmps211;go_wp2;go_ret;exact⟨by simp[zP,T.out];rfl,by simpa[AR,yZ,yQ,T.out]using h.set 1 (.bool true),uS (World.grownBy.refl _ _) _ _⟩
  ·
   by_cases hn0:0<=n
   ·obtain⟨k,rfl⟩:=Int.eq_ofNat_of_zero_le hn0;have z:k<=rest.length:=I;have hk':(k:Int)<=rest.length:=I;have T:=Y aB;clear aB;go_enter func211,ntmps211;go_wp2;go_ret;have ht:=T.out;rw[Int.toNat_natCast]at ht;exact⟨by simp[zP,ht],by simpa[AR,yZ,yQ,ht]using h.set 0 (.string (bs (rest.drop k))),uS (World.grownBy.refl _ _) _ _⟩
   ·have hn:n<0:=I;have T:=Y aB;clear aB hn0;go_enter func211,ntmps211;go_wp2;go_ret;have ht:n.toNat=0:=I;exact⟨by simp[zP,ht];rfl,by simpa[AR,yZ,yQ,ht]using h.set 0 (.string (bs rest)),uS (World.grownBy.refl _ _) _ _⟩
theorem KS(g:Nat)(rest:List UInt8)(short:Bool)(w:World)(h:AR w g rest short):
  Calls prog 264 #[.pointer (some ⟨g,0,none⟩)] w (xX (.int .i64 rest.length) w):=by
 have c0:=h.M 0 J;go_enter func264,ntmps264;go_wp2;exact pD
theorem Ic(g:Nat)(rest:List UInt8)(short:Bool)(w:World)(h:AR w g rest short):
  Calls prog 263 #[.pointer (some ⟨g,0,none⟩)] w (xX (.int .i64 (if short then 1 else 0)) w):=by
 have c1:=h.M 1 J;cases short;all_goals
  go_enter func263,ntmps263;go_wp2;exact pD
def WV(rest:List UInt8)(short:Bool):Int:=if short then 1 else if rest=[]then 0 else 2
theorem abA(g:Nat)(rest:List UInt8)(short:Bool)(w:World)(h:AR w g rest short):
  Calls prog 265 #[.pointer (some ⟨g,0,none⟩)] w (xX (.int .i64 (WV rest short)) w):=by
 cases short with
 |true=>go_enter func265,ntmps265;go_wp2_with(go_at_call 263;refine(Ic _ _ _ _ h).mono ?_;rintro e w' ⟨rfl,rfl⟩);exact pD
 |false=>
  rcases rest with _|⟨c,rest⟩
  ·go_enter func265,ntmps265;go_wp2_with(first|(go_at_call 263;refine(Ic _ _ _ _ h).mono ?_;rintro e w' ⟨rfl,rfl⟩)|(go_at_call 264;refine(KS _ _ _ _ h).mono ?_;rintro e w' ⟨rfl,rfl⟩));exact pD
  ·go_enter func265,ntmps265;go_wp2_with(first|(go_at_call 263;refine(Ic _ _ _ _ h).mono ?_;rintro e w' ⟨rfl,rfl⟩)|(go_at_call 264;refine(KS _ _ _ _ h).mono ?_;rintro e w' ⟨rfl,rfl⟩));exact pD
theorem NK(l:List UInt8)(k:Nat)(h:k<l.length):vw (l.take (k+1))=256*vw (l.take k)+l[k].toNat:=by
 rw[List.take_succ_eq_append_getElem h,NJ]
theorem Bh(l:List UInt8)(n:Nat)(h:l.length<=n):vw l<256^n:=Nat.lt_of_lt_of_le (abz l) (Nat.pow_le_pow_right az h)
theorem Rk(l:List UInt8)(h:l.length<=4):vw l<4294967296:=Bh l 4 h
theorem yw(l:List UInt8)(w:World)(hl:l.length<=4):Calls prog 43 #[.string (bs l)] w (xX (.int .i64 (vw l)) w):=by
 go_enter func43,ntmps43;go_wp2;go_loop[3,4] (fun n i=>∃k:Nat,k<=l.length/\i= .int .i64 k/\n= .int .i64 (vw (l.take k))) (fun _ i=>l.length-(intOf i).toNat)
 case atStart=>exact⟨0,Nat.zero_le _,J,J⟩
 case round=>
  obtain⟨k,z,rfl,rfl⟩:=hrel;have Z:=Rk (l.take k) aA;by_cases aB:k<l.length
  ·
   have hs:=Y (NK l k aB);have h1:(k:Int)<l.length:=I;have hc:l[k].toNat<256:=l[k].toNat_lt;go_wp2;go_round
   case rel=>exact⟨k+1,I,gp,by rw[hs.out];go_num⟩
   case measure=>simp[intOf];omega
  ·have h1:¬(k:Int)<l.length:=I;go_wp2;go_ret;exact xX.mk (yE gi) J
theorem adA(n:Nat)(c:Nat)(hn:n<4294967296)(hc:c<256):bits .or .i64 ((n:Int)*256) (c:Int)=(256*(n:Int)+c):=by
 have e1:((n:Int)*256)=((n*256:Nat):Int):=I;have e2:(n*256)|||c=256*n+c:=by have:=Nat.two_pow_add_eq_or_of_lt (i:=8) (b:=c) I n;rw[Nat.mul_comm n 256];exact this.symm
 rw[e1];show IntKind.i64.wrap ((BitVec.ofInt 64 ((n*256:Nat):Int)|||BitVec.ofInt 64 (c:Int)).toNat:Int)=_;rw[BitVec.toNat_or,BitVec.ofInt_natCast,BitVec.ofInt_natCast,BitVec.toNat_ofNat,BitVec.toNat_ofNat,Nat.mod_eq_of_lt I,Nat.mod_eq_of_lt I,e2,IntKind.wrap_i64];omega
theorem Ky(g:Nat)(rest:List UInt8)(short:Bool)(width:Int)(w:World)(h:AR w g rest short)(hl:rest.length<=maxLen):
  Calls prog 177 #[.pointer (some ⟨g,0,none⟩),.int .i64 width] w (KR (.int .i64 (vw (zP rest short (hw width)))) g (yZ rest short (hw width)) (yQ rest short (hw width)) w):=by
 have ht:(zP rest short (hw width)).length<=4:=by have:=YQ width;unfold zP;split<;>simp<;>omega
 go_enter func177,ntmps177;go_wp2_with fail;refine(DD _ _).mono ?_;rintro e w' ⟨rfl,rfl⟩;go_wp2_with fail;refine(YW g rest short _ _ h hl).mono ?_;rintro e w1 ⟨rfl,U,hg1⟩;generalize zP rest short (hw width)=l at*;go_wp2_with(refine KP _ J (.tmp 11) 9 145 5 J underlying9 underlying145 underlying5 l J ?_);intro cap w2 agT hby hb2 hsz;go_wp2_with fail;go_loop[5,7,14] (fun n _ i=>∃k:Nat,k<=l.length/\i= .int .i64 k/\n= .int .i64 (vw (l.take k))) (fun _ _ i=>l.length-(intOf i).toNat)
 case atStart=>exact⟨0,Nat.zero_le _,J,J⟩
 case round=>
  obtain⟨k,z,rfl,rfl⟩:=hrel;have Z:=Rk (l.take k) aA;by_cases aB:k<l.length
  ·
   have hs:=Y (NK l k aB);have h1:(k:Int)<l.length:=I;have hc:l[k].toNat<256:=l[k].toNat_lt;have ag5:=hby.uG k aB;rw[Nat.zero_add]at ag5;go_wp2;go_round
   case rel=>exact⟨k+1,I,gp,by rw[adA _ _ Z hc,hs.out];go_num⟩
   case measure=>simp[intOf];omega
  ·have h1:¬(k:Int)<l.length:=I;go_wp2;go_ret;exact⟨yE gi,U.G hb2 U.lt,vR hg1 hb2⟩
theorem ofNat_mod(n:Int):((UInt8.ofNat (n%256).toNat).toNat:Int)=n%256:=by
 rw[UInt8.toNat_ofNat'];omega
theorem IZ:∀(k:Nat) (n:Int),(vw (uA k n):Int)=n% (256^k:Nat):=by
 intro k;induction k with
 |zero=>intro n;simp[uA,vw]
 |succ k ih=>
  intro n;have U:=ih (n/256);have X:=ofNat_mod n;rw[uA,NJ];have hp:0<256^k:=Nat.pow_pos az;generalize hq:256^k=m at*;have e:n% ((256*m:Nat):Int)=256*(n/256% (m:Int))+n%256:=by
   have hm:(0:Int)<m:=I;have b2:=Int.emod_lt_of_pos (n/256) hm;have d:=Int.emod_add_mul_ediv (n/256) m;have key:n=(256*(n/256% (m:Int))+n%256)+((256*m:Nat):Int)*(n/256/m):=by
    have:((256*m:Nat):Int)*(n/256/m)=256*((m:Int)*(n/256/m)):=by rw[Int.natCast_mul];exact Int.mul_assoc _ _ _
    rw[this];omega
   have:n% ((256*m:Nat):Int)=(256*(n/256% (m:Int))+n%256)% ((256*m:Nat):Int):=by
    conv=>lhs;rw[key]
    exact Int.add_mul_emod_self_left _ _ _
   rw[this];exact Int.emod_eq_of_lt I I
  rw[Nat.pow_succ,hq,Nat.mul_comm m 256,e];omega
def zX(l:List UInt8):List UInt8:=UInt8.ofNat l.length::l
def wX(n:List (List UInt8)):List UInt8:=n.flatMap zX
theorem Fc(l:List UInt8):(zX l).length=l.length+1:=by simp[zX]
@[simp] theorem aeR:wX []=[]:=rfl
theorem Cl(l:List UInt8)(n:List (List UInt8)):wX (l::n)=zX l++wX n:=by simp[wX]
theorem KT(a b:List (List UInt8)):wX (a++b)=wX a++wX b:=by simp[wX]
def vB:List (List UInt8)->Nat
 |[]=>0
 |l::n=>l.length+1+vB n
theorem KU(a b:List (List UInt8)):vB (a++b)=vB a+vB b:=by
 induction a with
 |nil=>simp[vB]
 |cons l a ih=>simp[vB,ih];omega
theorem wA(n:List (List UInt8)):(wX n).length=vB n:=by
 induction n with
 |nil=>rfl
 |cons l n ih=>rw[Cl,List.length_append,Fc,ih,vB]
theorem z9(n:List (List UInt8)):n.length<=vB n:=by
 induction n with
 |nil=>simp
 |cons l n ih=>simp[vB];omega
theorem DH(n:List (List UInt8))(k:Nat)(h:k<n.length):vB (n.take (k+1))=vB (n.take k)+(n[k].length+1):=by
 rw[List.take_succ_eq_append_getElem h,KU];simp[vB]
theorem xc(n:List (List UInt8))(k:Nat):vB (n.take k)<=vB n:=by
 have:=KU (n.take k) (n.drop k);rw[List.take_append_drop]at this;omega
def Eh(l:List UInt8):Bool:=decide (l.length<1)||decide (63<l.length)
def uE(n:List (List UInt8)):Int:=if n.any Eh then 7 else if 255<1+vB n then 3 else 0
theorem xj{n:List (List UInt8)}(h:uE n=0):(∀l∈n,1<=l.length/\l.length<=63)/\1+vB n<=255:=by
 unfold uE at h;split at h
 ·cases h
 ·
  rename_i ha;split at h
  ·cases h
  ·
   refine⟨fun l hl=>?_,I⟩;have Z:Eh l=false:=by
    cases h:Eh l with
    |false=>rfl
    |true=>exact absurd (List.any_eq_true.2 ⟨l,hl,h⟩) ha
   simp[Eh]at Z;cases l with
   |nil=>simp at Z
   |cons x l=>simp at Z⊢;omega
theorem KV{n:List (List UInt8)}(h:∀l∈n,1<=l.length/\l.length<=63)(hs:1+vB n<=255):uE n=0:=by
 unfold uE;have:n.any Eh=false:=by rw[List.any_eq_false];intro l hl;have:=h l hl;rw[Eh,decide_eq_false I,decide_eq_false I];simp
 rw[this,if_neg ap,if_neg I]
def yR(n:List (List UInt8)):Prop:=∀l∈n,1<=l.length/\l.length<=63
theorem yR.tail{l:List UInt8}{n:List (List UInt8)}(h:yR (l::n)):yR n:=fun x hx=>h x (List.mem_cons_of_mem _ hx)
theorem yR.drop{n:List (List UInt8)}(h:yR n)(k:Nat):yR (n.drop k):=fun x hx=>h x (List.mem_of_mem_drop hx)
theorem yY{k:Nat}(h:k<=255):(UInt8.ofNat k).toNat=k:=by
 rw[UInt8.toNat_ofNat'];exact Nat.mod_eq_of_lt I
theorem YX:∀(a b:List (List UInt8)),yR a->yR b->wX a=wX b->a=b:=by
 intro a;induction a with
 |nil=>
  intro b _ _ h;cases b with
  |nil=>rfl
  |cons y b=>rw[Cl]at h;simp[zX]at h
 |cons x a ih=>
  intro b ga gb h;cases b with
  |nil=>rw[Cl]at h;simp[zX]at h
  |cons y b=>
   rw[Cl,Cl]at h;simp only[zX,List.cons_append,List.cons.injEq]at h;obtain⟨U,X⟩:=h;have gx:=ga x (List.mem_cons_self ..);have gy:=gb y (List.mem_cons_self ..);have hl:x.length=y.length:=by have:=congrArg UInt8.toNat U;rwa[yY I,yY I]at this
   obtain⟨e1,e2⟩:=List.append_inj X hl;rw[e1,ih b ga.tail gb.tail e2]
def look(T:List (List (List UInt8)×Nat))(n:List (List UInt8)):Option Nat:=(T.find? fun r=>r.1==n).map (·.2)
def low(uG:Int)(k:Nat):Bool:=decide (0<=uG)&&decide (uG<16384)&&decide (uG+k<16384)
theorem Bi(uG:Int)(k:Nat):low uG k=true↔0<=uG/\uG<16384/\uG+k<16384:=by simp[low,and_assoc]
def FJ(T:List (List (List UInt8)×Nat))(uG:Int)(pre:List UInt8):List (List UInt8)->List UInt8×List (List (List UInt8)×Nat)
 |[]=>(pre++[0],[])
 |l::n=>match look T (l::n)with
  |some q0=>(pre++uA 2 (49152+q0),[])
  |none=>((FJ T uG (pre++zX l) n).1,(if low uG pre.length then[(l::n,(uG+pre.length).toNat)]else[])++(FJ T uG (pre++zX l) n).2)
theorem Ie{T:List (List (List UInt8)×Nat)}{uG:Int}{pre l:List UInt8}{n:List (List UInt8)}{q0:Nat}(h:look T (l::n)=some q0):FJ T uG pre (l::n)=(pre++uA 2 (49152+q0),[]):=by
 rw[FJ,h]
theorem KW{T:List (List (List UInt8)×Nat)}{uG:Int}{pre l:List UInt8}{n:List (List UInt8)}(h:look T (l::n)=none):FJ T uG pre (l::n)=((FJ T uG (pre++zX l) n).1,(if low uG pre.length then[(l::n,(uG+pre.length).toNat)]else[])++(FJ T uG (pre++zX l) n).2):=by
 rw[FJ,h]
theorem Dt(T arE:List (List (List UInt8)×Nat))(n:List (List UInt8))(h:∀r∈arE,r.1≠n):look (T++arE) n=look T n:=by
 unfold look;rw[List.find?_append];have:arE.find? (fun r=>r.1==n)=none:=by rw[List.find?_eq_none];intro r hr;simpa using h r hr
 rw[this];simp
theorem KX{T:List (List (List UInt8)×Nat)}{n:List (List UInt8)}{q:Nat}(h:look T n=some q):(n,q)∈T:=by
 unfold look at h;rw[Option.map_eq_some_iff]at h;obtain⟨r,hr,rfl⟩:=h;have U:=List.find?_some hr;have X:=List.mem_of_find?_eq_some hr;have:r.1=n:=iA;rw[<-this];exact X
inductive Rd (m:List UInt8):Nat->Nat->List (List UInt8)->Nat->Prop where
 |nil {b p}:p<m.length->(m.getD p 0).toNat=0->Rd m b p [] (p+1)
 |cons {b p l n e}:p<m.length->(m.getD p 0).toNat=l.length->1<=l.length->l.length<=63->p+1+l.length<=m.length->(m.take (p+1+l.length)).drop (p+1)=l->Rd m b (p+1+l.length) n e->Rd m b p (l::n) e
 |ptr {b p q n e}:p+1<m.length->192<=(m.getD p 0).toNat->(m.getD p 0).toNat*256+(m.getD (p+1) 0).toNat-49152=q->q<b->Rd m q q n e->Rd m b p n (p+2)
theorem Ig(m y:List UInt8)(p:Nat)(h:p<m.length):(m++y).getD p 0=m.getD p 0:=by
 simp[List.getD,List.getElem?_append_left h]
theorem Rd.Cm{b p:Nat}{n:List (List UInt8)}{e:Nat}(h:Rd m b p n e)(y:List UInt8):Rd (m++y) b p n e:=by
 induction h with
 |nil U X=>exact .nil aA aC
 |cons U X h3 h4 h5 h6 _ ih=>exact .cons aA aC h3 h4 aA (by rw[List.take_append_of_le_length h5];exact h6) ih
 |ptr U X h3 h4 _ ih=>exact .ptr aA (by rw[Ig _ _ _ I];exact X) (by rw[Ig _ _ _ I,Ig _ _ _ U];exact h3) h4 ih
theorem Rd.mono{b p:Nat}{n:List (List UInt8)}{e:Nat}(h:Rd m b p n e):∀b',b<=b'->Rd m b' p n e:=by
 induction h with
 |nil U X=>intro b' Z;exact .nil U X
 |cons U X h3 h4 h5 h6 _ ih=>intro b' Z;exact .cons U X h3 h4 h5 h6 (ih b' Z)
 |ptr U X h3 h4 h5 ih=>intro b' Z;exact .ptr U X h3 I h5
def Fe(m:List UInt8)(T:List (List (List UInt8)×Nat)):Prop:=∀r∈T,r.1≠[]/\r.2<16384/\r.2<m.length/\∃e,Rd m r.2 r.2 r.1 e
theorem Fe.Cm{T:List (List (List UInt8)×Nat)}(h:Fe m T)(y:List UInt8):Fe (m++y) T:=by
 intro r hr;obtain⟨U,X,h3,e,h4⟩:=h r hr;exact⟨U,X,aA,e,h4.Cm y⟩
theorem YY(q0:Nat)(h:q0<16384):uA 2 (49152+q0)=[UInt8.ofNat (192+q0/256),UInt8.ofNat (q0%256)]:=by
 have e1:((49152+(q0:Int))/256%256).toNat=192+q0/256:=I;have e2:((49152+(q0:Int))%256).toNat=q0%256:=I;simp[uA,e1,e2]
theorem Kz(x y:List UInt8)(c:UInt8):(x++c::y).getD x.length 0=c:=by simp[List.getD]
theorem YZ(x y:List UInt8)(c d:UInt8):(x++c::d::y).getD (x.length+1) 0=d:=by simp[List.getD]
theorem Y0(q0:Nat)(h:q0<16384):(UInt8.ofNat (192+q0/256)).toNat*256+(UInt8.ofNat (q0%256)).toNat-49152=q0:=by
 rw[yY I,yY I];omega
theorem adB(T:List (List (List UInt8)×Nat))(first:List UInt8)(hT:Fe first T):∀(n:List (List UInt8)) (pre:List UInt8),yR n->
  (∃a,(FJ T first.length pre n).1=pre++a/\a.length<=vB n+1/\1<=a.length/\∀b,first.length<=b->Rd (first++(pre++a)) b (first.length+pre.length) n (first.length+pre.length+a.length))/\
  Fe (first++(FJ T first.length pre n).1) (FJ T first.length pre n).2:=by
 intro n;induction n with
 |nil=>intro pre _;refine⟨⟨[0],J,by simp[vB],ap,fun b _=>?_⟩,by simp[FJ,Fe]⟩;refine .nil ap ?_;rw[<-List.append_assoc,<-List.length_append,Kz];rfl
 |cons l n ih=>
  intro pre hg;have hl:=hg l (List.mem_cons_self ..);cases z:look T (l::n)with
  |some q0=>
   rw[Ie z];have hm:=KX z;obtain⟨U,X,h3,e,h4⟩:=hT _ hm;simp only at U X h3 h4;simp only;refine⟨⟨uA 2 (49152+q0),J,by rw[uy];simp[vB];omega,by rw[uy];omega,fun b Z=>?_⟩,by simp[Fe]⟩;rw[uy,YY q0 X];refine .ptr (q:=q0) (e:=e) aA ?_ ?_ I ?_
   ·rw[<-List.append_assoc,<-List.length_append,Kz,yY I];omega
   ·rw[<-List.append_assoc,<-List.length_append,Kz,YZ];exact Y0 q0 X
   ·exact h4.Cm _
  |none=>
   rw[KW z];obtain⟨⟨a,ha,hla,aGh,hr⟩,ht⟩:=ih (pre++zX l) hg.tail;have hR:∀b,first.length<=b->Rd (first++(pre++(zX l++a))) b (first.length+pre.length) (l::n) (first.length+pre.length+(zX l++a).length):=by
    intro b Z;have:=hr b Z;rw[List.append_assoc]at this;rw[show first.length+(pre++zX l).length=first.length+pre.length+1+l.length by simp[zX];omega]at this;rw[show first.length+pre.length+(zX l++a).length=first.length+pre.length+1+l.length+a.length by simp[zX];omega];refine .cons (by simp[zX]) ?_ hl.1 hl.2 (by simp[zX];omega) ?_ this
    ·rw[<-List.append_assoc,<-List.length_append];simp only[zX,List.cons_append];rw[Kz,yY I]
    ·
     have e1:first++(pre++(zX l++a))=(first++pre++[UInt8.ofNat l.length])++(l++a):=by simp[zX]
     have e2:first.length+pre.length+1=(first++pre++[UInt8.ofNat l.length]).length:=aA;rw[e1,e2,List.drop_take,List.drop_left,Nat.add_sub_cancel_left,List.take_left]
   refine⟨⟨zX l++a,by rw[ha];simp,by rw[List.length_append,Fc,vB];omega,by rw[List.length_append];omega,hR⟩,?_⟩;intro r hr';rcases List.mem_append.1 hr' with h|h
   ·
    by_cases hc:low first.length pre.length=true
    ·
     rw[if_pos hc,List.mem_singleton]at h;have hc':=(Bi _ _).1 hc;have e:(((first.length:Int))+(pre.length:Int)).toNat=first.length+pre.length:=I;rw[e]at h;rw[h];refine⟨ap,I,?_,first.length+pre.length+(zX l++a).length,?_⟩
     ·rw[ha];simp[zX]
     ·rw[ha,List.append_assoc];exact hR _ I
    ·rw[if_neg hc]at h;cases h
   ·exact ht r h
theorem Y4(uG:Int):∀(n:List (List UInt8)) (pre:List UInt8),(FJ [] uG pre n).1=pre++wX n++[0]:=by
 intro n;induction n with
 |nil=>intro pre;simp[FJ]
 |cons l n ih=>intro pre;rw[KW J,ih,Cl];simp
theorem Ei:(prog.info? 9).map (fun i=>(i.zero,i.size,i.bytes))=some (some (.string ⟨#[]⟩),1,16):=by kernel_rfl
def wO(w:World)(v:Value)(l:List (List UInt8)):Prop:=w.ownsRow 0 9 1 v l.length (l.map fun t=>Value.string (bs t))
theorem wO.nil(w:World):wO w (.slice none 0 0) []:=World.ownsRow_nil _ _ _ _
theorem wO.G{l:List (List UInt8)}(h:wO w v l)(Z:al w w'):wO w' v l:=by
 refine World.ownsRow.kept h (uM Z none) ?_;cases hv:v.ownBlock with
 |none=>exact .inl J
 |some g=>exact .inr ap
theorem wO.grown{l:List (List UInt8)}{k:Nat}(h:wO w v l)(hg:w.grownBy w' (some k))(z:F w k t cs)(ht:t≠9):wO w' v l:=by
 refine World.ownsRow.kept h hg ?_;cases hv:v.ownBlock with
 |none=>exact .inl J
 |some g=>
  refine .inr ?_;intro e;injection e with e;subst e;rcases h.2 with⟨rfl,_⟩|⟨g',cap,cur,rfl,_,hh,_⟩
  ·simp[Value.ownBlock]at hv
  ·have:g'=g:=ng;subst this;unfold F at z;rw[hh]at z;injection z with z;injection z with _ he;exact ht he.symm
theorem WX{e:TypeId}{size n:Nat}{xs:List Value}(h:w.ownsRow 0 e size v n xs)(hg:w.grownBy w' v.ownBlock):∀j t cs,t≠e->F w j t cs->F w' j t cs:=by
 intro j t cs hne Z;refine Z.grown hg ?_;rcases h.2 with⟨rfl,_⟩|⟨g',cap,cur,rfl,_,hh,_⟩
 ·simp[Value.ownBlock]
 ·intro he;have:j=g':=kc;exact sJ
def AO(w:World)(A:Option Addr)(l:List (List UInt8)):Prop:=0<l.length->∃b off,A=some ⟨b,off,none⟩/\b<w.heap.size/\∀i (hi:i<l.length),w.cell? ⟨b,off+i,none⟩=some (.string (bs l[i]))
theorem wO.form{l:List (List UInt8)}(h:wO w v l):∃A c,v= .slice A l.length c/\AO w A l/\l.length<=c:=by
 rcases h.2 with⟨rfl,h0⟩|⟨g,cap,cur,rfl,_,hh,hnc,_⟩
 ·refine⟨none,0,?_,fun hp=>absurd hp I,I⟩;rw[h0]
 ·
  refine⟨some ⟨g,0,none⟩,cap,J,fun _=>⟨g,0,J,?_,fun i hi=>?_⟩,hnc⟩
  ·
   rcases Nat.lt_or_ge g w.heap.size with aB|hge
   ·exact aB
   ·rw[Array.getElem?_eq_none hge]at hh;cases hh
  ·have:=World.ownsRow.cellAt h i I;rw[Nat.zero_add,this];simp[hi]
theorem AO.G{A:Option Addr}{l:List (List UInt8)}(h:AO w A l)(Z:al w w'):AO w' A l:=by
 intro hp;obtain⟨b,off,hA,aB,hc⟩:=h hp;exact⟨b,off,hA,Nat.lt_of_lt_of_le aB Z.size,fun i hi=>(Z.cell aB).trans (hc i hi)⟩
theorem Y5(A B:Option Addr)(a b:List (List UInt8))(ca cb:Nat)(w:World)(hA:AO w A a)(hB:AO w B b)(hm:a.length<=281474976710656)(hm2:b.length<=281474976710656):
  Calls prog 152 #[.slice A a.length ca,.slice B b.length cb] w (uI (.bool (decide (a=b))) w):=by
 by_cases hl:a.length=b.length
 ·
  have hl1:((a.length:Int) !=b.length)=false:=nR;have HL:=Y hl;have hle:a.length<=b.length:=I;clear hl;go_enter func152,ntmps152;go_wp2_with fail;go_loopw[5] (fun i wr=>∃k:Nat,k<=a.length/\i= .int .i64 k/\a.take k=b.take k/\∃n,wr=w.drewN n) (fun i _=>a.length-(intOf i).toNat)
  case atStart=>exact⟨0,I,J,ap,0,J⟩
  case round=>
   obtain⟨k,z,rfl,htk,n,rfl⟩:=hrel;have TK:=Y htk;clear htk;by_cases aB:k<a.length
   ·
    have h1:(k:Int)<a.length:=I;have hlb:k<b.length:=I;have aGc:(k:Int)<b.length:=I;obtain⟨ba,oa,rfl,la,xa⟩:=hA I;obtain⟨bb,ob,rfl,lb,xb⟩:=hB I;have c1:=xa k aB;have c2:=xb k hlb;clear xa xb;by_cases he:a[k]=b[k]
    ·
     have e1:(a[k]==b[k])=true:=iE;have HE:=Y he;clear he;go_wp2_with fail;go_quiet(fail);go_wp2_with fail;go_roundw
     case rel=>refine⟨k+1,I,gp,?_,_,J⟩;rw[List.take_succ_eq_append_getElem aB,List.take_succ_eq_append_getElem hlb,TK.out,HE.out]
     case measure=>simp[intOf];omega
    ·
     have e1:(a[k]==b[k])=false:=iE;have hne:decide (a=b)=false:=by rw[decide_eq_false_iff_not];rintro rfl;exact he J
     have HN:=Y hne;clear he hne;go_wp2_with fail;go_quiet(fail);go_wp2_with fail;go_ret;exact uI.mk (z7 HN.out.symm) (below_drewN (below_drewN (Below.refl _ _) _) _)
   ·
    have h1:¬(k:Int)<a.length:=I;have hab:decide (a=b)=true:=by have U:=TK.out;rw[List.take_of_length_le I,List.take_of_length_le (by have:=HL.out;omega)]at U;simpa using U
    have HN:=Y hab;clear hab;go_wp2_with fail;go_ret;exact uI.mk (z7 HN.out.symm) (below_drewN (Below.refl _ _) _)
 ·
  have hl1:((a.length:Int) !=b.length)=true:=aA;have hne:decide (a=b)=false:=by rw[decide_eq_false_iff_not];rintro rfl;exact hl J
  rw[hne];clear hne;go_enter func152,ntmps152;exact rJ
theorem Pr(m:List UInt8)(i c:Nat)(h:i<m.length)(hc:c=(m.getD i 0).toNat)(w:World):(Instr.index 9 (.string (bs m)) (.int .i64 (i:Int))).run prog w= .ok (.int .u8 (c:Int)) w:=by
 have e:m[i].toNat=c:=by rw[hc];simp[List.getD,List.getElem?_eq_getElem h]
 rw[run_index_string w _ _ _ _ underlying9,dif_pos ⟨Int.natCast_nonneg _,by rw[xK];omega⟩];have e2:((bs m)[((i:Int)).toNat]'(by rw[xK];simpa using h)).toNat=c:=by rw[ady];simpa using e
 rw[e2]
def vT(l:List UInt8):List Value:=l.map fun b=>Value.int .u8 (b.toNat:Int)
theorem v9(l:List UInt8):(vT l).length=l.length:=by simp[vT]
theorem Bl(a b:List UInt8):vT (a++b)=vT a++vT b:=by simp[vT]
theorem DI(l:List UInt8)(j:Nat)(h:j<l.length):(vT l)[j]?=some (.int .u8 (l[j].toNat:Int)):=by simp[vT,h]
theorem DJ:(prog.info? 5).map (fun i=>(i.zero,i.size,i.bytes))=some (some (.int .u8 0),1,1):=by kernel_rfl
theorem byteSize:(prog.info? 5).map (·.size)=some 1:=by kernel_rfl
theorem Rl:prog.cellsOf 5=1:=by kernel_rfl
theorem KY(abx:Value)(n:Nat)(h:abx.cells= #[abx]):(madeCells abx.cells n).toList=List.replicate n abx:=by
 rw[h];simp[madeCells,Nat.mod_one,List.map_const']
theorem JI(n:Nat)(hn:n<=281474976710656)(W:World):(Instr.makeSlice 145 (.int .i64 (n:Int)) (.int .i64 (n:Int))).run prog W= .ok (.slice (some ⟨W.heap.size,0,none⟩) n n) (W.alloc (.cells (vT (List.replicate n 0)).toArray 5)):=by
 obtain⟨i0,hi,hz0,hz1,hz2⟩:=info_parts DJ;have h:=run_make (P:=prog) W 145 5 i0 (.int .u8 0) underlying145 hi hz0 .i64 .i64 (n:Int) (n:Int) I I (by rw[hz2];omega) I;rw[hz1]at h;have e:(madeCells (Value.int .u8 0).cells (((n:Nat):Int).toNat*1))=(vT (List.replicate n 0)).toArray:=by have:=KY (.int .u8 0) n J;rw[Int.toNat_natCast,Nat.mul_one];apply Array.toList_inj.1;rw[this];simp[vT]
 rw[e]at h;simpa using h
theorem Hg(h:F w g t cs)(ds:List Value):F (w.setRow g ds.toArray) g t ds:=setRow_heap _ _ cs.toArray _ t (0,0) h
theorem Ur{g':Nat}(h:F w g t cs)(ds:Array Value)(hne:g≠g'):F (w.setRow g' ds) g t cs:=(setRow_other _ _ _ _ hne).trans h
theorem below_setRow(h:Below B a w)(hg:B<=g)(ds:Array Value):Below B a (w.setRow g ds):=
 h.trans ⟨J,J,J,ap,fun k z=>setRow_other _ _ _ _ I⟩
theorem Ih(W:World)(g o len cap:Nat)(s:List UInt8)(cs:List Value)(h:F W g 5 cs)(hle:s.length<=len)(apH:o+s.length<=cs.length):
  (Builtin.copy_ #[145,9] 3 #[.slice (some ⟨g,o,none⟩) len cap,.string (bs s)]).run prog W= .ok (.int .i64 s.length) (W.setRow g (cs.take o++vT s++cs.drop (o+s.length)).toArray):=by
 have:=Lib.run_copy_row_string (P:=prog) W 145 9 3 5 g o len cap (bs s) cs.toArray 5 underlying145 byteSize h (by simpa using hle) (by simpa using apH);rw[this];simp[goInt,bs,Lib.byteCells,vT,ByteArray.size]
theorem KZ(W:World)(g cap:Nat)(l:List UInt8)(cs:List Value)(h:F W g 5 cs)(hl:cs.take l.length=vT l):
  (convert 145 9 (.slice (some ⟨g,0,none⟩) l.length cap)).run prog W= .ok (.string (bs l)) W:=by
 refine run_convert_bytes_back W 145 9 5 ⟨g,0,none⟩ cap l underlying145 underlying5 underlying9 ?_;intro j hj;have hc:=h.cell j;have e:cs[j]?=(cs.take l.length)[j]?:=by rw[List.getElem?_take_of_lt hj]
 rw[e,hl,DI l j hj]at hc;rw[<-hc];congr 1;unfold Addr.add;split<;>simp_all
end Go.Proofs.YthnbcmlnpdabhaaGreat
