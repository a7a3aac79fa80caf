/-
  The common words of this seat's proofs:what a call comes to,and how memory is kept.
-/
import Derived.Test.YthnbcmlnpdabhaaGreatRows
import Derived.WalkKit
import Derived.WalkSpells
import Derived.WalkLawsBesides
import Derived.Deep.QuietTactic
import Derived.BigQuiet
import Derived.Lib.Hide
import Derived.Handy
import Derived.Deep.RegionHeld3
import Derived.StillTailTactics
import Derived.Deep.LoopGhost
import Derived.Deep.RegionLaw
import Derived.Deep.DeepCutAuto
import Derived.Deep.Slices
import Derived.Maps.AppendAt
import Derived.Deep.AppendLies
import Derived.Lib.BufferWrite
import Derived.Laws.CopyOwn
namespace Go.Proofs.YthnbcmlnpdabhaaGreat
variable {v u:Value} {w w' a:World} {P:Program} {B g:Nat} {ops:Array Oper} {rest:List Oper} {o:Oper} {m:List UInt8} {t:TypeId} {cs:List Value}
theorem J{α:Sort _}{a:α}:a=a:=rfl
section
variable {p:Prop}
theorem ap(h:p:=by simp):p:=h
theorem aq(h:p:=by simpa using h):p:=h
theorem ar(h:p:=by unfold hw;split<;>(try split)<;>omega):p:=h
theorem av(h:p:=by first|rfl|(simp[tT];done)):p:=h
theorem aw(h:p:=by go_grown):p:=h
theorem ax(h:p:=by decide):p:=h
theorem az(h:p:=by simp;omega):p:=h
theorem I(h:p:=by omega):p:=h
theorem aB(h:p:=by rw[GZ _ _ _ U];exact X):p:=h
theorem aC(h:p:=by simp at hl⊢;omega):p:=h
theorem aD(h:p:=by rw[hl];exact hi):p:=h
theorem aE(h:p:=by simpa using F.there o sub.length hn):p:=h
theorem aF(h:p:=by simpa using hi):p:=h
theorem aG(h:p:=by simp[World.setCell]):p:=h
theorem aH(h:p:=by simp[vB];omega):p:=h
theorem aI(h:p:=by rw[xf];omega):p:=h
theorem aJ(h:p:=by simp only[maxLen];omega):p:=h
theorem aK(h:p:=by unfold Program.fieldsOf;rw[underlying24]):p:=h
theorem aL(h:p:=by simpa using F):p:=h
theorem aM(h:p:=by simp[Value.ownBlock];omega):p:=h
theorem aN(h:p:=by rfl):p:=h
theorem aO(h:p:=by simp[Value.oneCell']):p:=h
theorem aP(h:p:=by intro k O;injection O with O;omega):p:=h
theorem aQ(h:p:=by have:=hR.lt;omega):p:=h
theorem aR(h:p:=by simp[go_sem]):p:=h
theorem aS(h:p:=by have:=hB.size;simp;omega):p:=h
theorem aT(h:p:=by have:=hB2.size;simp;omega):p:=h
theorem aU(h:p:=by simp only[maxLen,List.length_drop];omega):p:=h
theorem aV(h:p:=by assumption):p:=h
theorem aW(h:p:=by rw[HR.out,HRN.out,List.append_nil]):p:=h
theorem aX(h:p:=by simp only[xf,List.length_singleton];omega):p:=h
theorem aY(h:p:=by simp only[xf,List.length_append,List.length_singleton];omega):p:=h
theorem aZ(h:p:=by have:=hA.2.2.1;omega):p:=h
theorem bc(h:p:=by simp[uF,h.2]):p:=h
theorem bd(h:p:=by simp[h0]):p:=h
theorem bf(h:p:=by simpa using O):p:=h
theorem bh(h:p:=by simp[U,X,h3]):p:=h
theorem bi(h:p:=by rw[Fa];omega):p:=h
theorem bj(h:p:=by rw[hl];exact uu):p:=h
theorem bm(h:p:=by go_simp):p:=h
theorem bp(h:p:=by rw[L4l];exact uu):p:=h
theorem bu(h:p:=by have:=hN.2.2.1;omega):p:=h
theorem bC(h:p:=by simp[U]):p:=h
theorem bD(h:p:=by obtain⟨_,_,_,_,_,_,rfl,hr,_⟩:=h;exact fun j hj=>acY hr j hj):p:=h
theorem bE(h:p:=by rw[hcs];exact Ep hr):p:=h
theorem bF(h:p:=by rw[HO.out];simp):p:=h
theorem bG(h:p:=by rw[List.length_drop];omega):p:=h
theorem bH(h:p:=by rw[List.length_drop,H12.out];omega):p:=h
theorem bI(h:p:=by rw[hcs];rfl):p:=h
theorem bJ(h:p:=by rw[hds];rfl):p:=h
theorem bK(h:p:=by rw[h]):p:=h
theorem bL(h:p:=by simp[vw]):p:=h
theorem bQ(h:p:=by rw[show QH.length=33 from uP ⟨J,J⟩];omega):p:=h
theorem bS(h:p:=by rw[yJ,show uw.length=14 from J];omega):p:=h
theorem bU(h:p:=by have:=b4.size;simp;omega):p:=h
theorem bV(h:p:=by simpa using hgn.symm):p:=h
theorem bX(h:p:=by simpa using hgn):p:=h
theorem bY(h:p:=by simp only[List.length_set];omega):p:=h
theorem bZ(h:p:=by rw[hL];exact wj J J J):p:=h
theorem cf(h:p:=by rw[ll];exact uu):p:=h
theorem cC(h:p:=by rw[hd];simpa using hn):p:=h
theorem cD(h:p:=by rw[Fa];exact uu):p:=h
theorem cE(h:p:=by rw[hL];exact wj J nv.one J):p:=h
theorem cF(h:p:=by rw[hn];rfl):p:=h
theorem cG(h:p:=by simpa using hn):p:=h
theorem cH(h:p:=by simp[qZ]):p:=h
theorem cI(h:p:=by rw[hcl];exact uu):p:=h
theorem cJ(h:p:=by rw[lMz];exact uu):p:=h
theorem cK(h:p:=by rw[adT];decide):p:=h
theorem cL(h:p:=by rw[HK.out];rfl):p:=h
theorem cM(h:p:=by rw[hcl];exact AZ):p:=h
theorem cN(h:p:=by rw[ao3,hcl];decide):p:=h
theorem cO(h:p:=by have:=g1.size;simp at this;omega):p:=h
theorem cP(h:p:=by have:=H2.size;simp;omega):p:=h
theorem cQ(h:p:=by unfold QZ;decide):p:=h
theorem cR(h:p:=by have:=EE L.us n hn hn2;rwa[hwu,Int.tmod_eq_emod_of_nonneg hu0]at this):p:=h
theorem cT(h:p:=by rw[hcl];exact NJ):p:=h
theorem cU(h:p:=by rw[h.hcs];rfl):p:=h
theorem cV(h:p:=by have:=h.hN.2.2.1;omega):p:=h
theorem cW(h:p:=by unfold CQ;rfl):p:=h
theorem cX(h:p:=by have:=h.hT.2.2.1;omega):p:=h
theorem cY(h:p:=by rw[ZL];exact uu):p:=h
theorem cZ(h:p:=by have:=hk.size;simp;omega):p:=h
theorem c8(h:p:=by rw[h.hcs];exact Cd h.hr):p:=h
theorem dc(h:p:=by rw[AL];exact vR):p:=h
theorem dd(h:p:=by rw[ckl];exact uu):p:=h
theorem df(h:p:=by have:=HBr.size;simp;omega):p:=h
theorem dg(h:p:=by simp only[List.length_take];omega):p:=h
theorem dh(h:p:=by rw[<-PL.eq];exact hl):p:=h
theorem di(h:p:=by unfold vo.BD;simp):p:=h
theorem dv(h:p:=by first|rfl|(show Value.pointer _=_;simp)):p:=h
theorem dx(h:p:=by rw[<-hO.out];exact abk h12 hl):p:=h
theorem dz(h:p:=by rw[yJ];decide):p:=h
theorem dA(h:p:=by simp[HAL.out]):p:=h
theorem dB(h:p:=by rw[lL];exact ux):p:=h
theorem dC(h:p:=by simp only[List.length_append,tR];omega):p:=h
theorem dD(h:p:=by simp[e1]):p:=h
theorem dE(h:p:=by simp only[List.length_append];omega):p:=h
theorem dF(h:p:=by simp[l]):p:=h
theorem dG(h:p:=by have:=hB1.size;simp;omega):p:=h
theorem dH(h:p:=by rw[y.sv.ur h];omega):p:=h
theorem dI(h:p:=by rw[hdl,zP];omega):p:=h
theorem dJ(h:p:=by rw[hdl];exact ux):p:=h
theorem dK(h:p:=by have:=zP;omega):p:=h
theorem dL(h:p:=by rw[hO];simp[wH,hr]):p:=h
theorem dM(h:p:=by rw[h.hcs];exact ZD h.ip):p:=h
theorem dN(h:p:=by rw[<-hP.out];rfl):p:=h
theorem dO(h:p:=by rw[PP.out,if_neg (fun h=>O h.1)]):p:=h
theorem dP(h:p:=by rw[PP.out,if_neg (fun h=>hf h.2.1)]):p:=h
theorem dQ(h:p:=by rw[PP.out,if_neg (fun h=>hp h.2.2.1)]):p:=h
theorem dR(h:p:=by rw[PP.out,if_neg (fun h=>ho h.2.2.2)]):p:=h
theorem dS(h:p:=by rw[PP.out,if_pos ⟨O,hf,hp,ho⟩]):p:=h
theorem dT(h:p:=by simp only[ne_eq,Option.some.injEq];omega):p:=h
theorem dU(h:p:=by simp[vB]):p:=h
theorem dV(h:p:=by simp[wm]):p:=h
theorem dW(h:p:=by rw[xi h];omega):p:=h
theorem dX(h:p:=by rw[xi h];exact hi):p:=h
theorem dY(h:p:=by cases h):p:=h
theorem dZ(h:p:=by rw[yJ];exact ux):p:=h
theorem ea(h:p:=by simp[Act.eval,Act.put]):p:=h
theorem ee(h:p:=by rw[<-hR.out];unfold yW;rw[if_pos he]):p:=h
theorem eg(h:p:=by rw[<-hR.out];unfold uW;rw[if_pos (.inl hs)]):p:=h
theorem eh(h:p:=by rw[<-hR.out];unfold uW;rw[if_pos (.inr hpo)]):p:=h
theorem ei(h:p:=by rw[<-hR.out];unfold uW;rw[if_neg H0.out,if_pos hk3,if_pos hop]):p:=h
theorem ej(h:p:=by rw[hop];decide):p:=h
theorem en(h:p:=by rw[<-hR.out];unfold uW;rw[if_neg H0.out,if_neg hk3,if_neg hk4,if_pos hk5]):p:=h
theorem eo(h:p:=by rw[<-hR.out];unfold uW;rw[if_neg H0.out,if_neg hk3,if_neg hk4,if_neg hk5]):p:=h
theorem et(h:p:=by rw[hfl];exact adq):p:=h
theorem eu(h:p:=by rw[hl1];exact zX):p:=h
theorem ew(h:p:=by first|(simp;done)|(simp;omega)):p:=h
theorem ey(h:p:=by rw[hcs.out];rfl):p:=h
theorem eC(h:p:=by rw[hel];exact AZ):p:=h
theorem eD(h:p:=by rw[hel];exact NJ):p:=h
theorem eE(h:p:=by rw[hRl];exact zX):p:=h
theorem eF(h:p:=by unfold zy;exact zv Hh):p:=h
theorem eG(h:p:=by rw[hcl];exact So):p:=h
theorem eH(h:p:=by rw[<-B1'.cell 1];exact d1):p:=h
theorem eI(h:p:=by rw[SF.out,IR.out,decide_eq_false ht];simp):p:=h
theorem eJ(h:p:=by rw[hfl];simp):p:=h
theorem eL(h:p:=by rw[aeq.out];rfl):p:=h
theorem eM(h:p:=by rw[<-HK.out,hV.out]):p:=h
theorem eO(h:p:=by rw[<-HV.out];rfl):p:=h
theorem eP(h:p:=by rw[hd];decide):p:=h
theorem eQ(h:p:=by show x.Sp<=_;omega):p:=h
theorem eR(h:p:=by show L.us+1<=1000000000;omega):p:=h
theorem eS(h:p:=by rw[e1.out];exact AZ):p:=h
theorem eU(h:p:=by rw[hOl];exact z9):p:=h
theorem eV(h:p:=by rw[FV.out];rfl):p:=h
theorem eW(h:p:=by simp;exact h37):p:=h
theorem eX(h:p:=by rw[l15];exact z9):p:=h
theorem eY(h:p:=by rw[AV U hq];omega):p:=h
theorem eZ(h:p:=by rw[hMl];omega):p:=h
theorem ff(h:p:=by rw[HT.out,if_pos v1]):p:=h
theorem fg(h:p:=by rw[HT.out,if_neg v1,if_pos v2]):p:=h
theorem fh(h:p:=by rw[HT.out,if_neg v1,if_neg v2,if_pos v3]):p:=h
theorem fi(h:p:=by rw[HT.out,if_neg v1,if_neg v2,if_neg v3,if_pos v5]):p:=h
theorem fj(h:p:=by rw[HT.out,if_neg v1,if_neg v2,if_neg v3,if_neg v5]):p:=h
theorem fk(h:p:=by rw[hdn];decide):p:=h
theorem fl(h:p:=by intro e;injection e with e;omega):p:=h
theorem fo(h:p:=by rw[HT.out,if_pos s1]):p:=h
theorem ft(h:p:=by go_simp;exact CF.out _ _ _):p:=h
theorem fw(h:p:=by rw[aoG];exact z9):p:=h
theorem fx(h:p:=by rw[<-hR.out,htl.out,hx0];rfl):p:=h
theorem fy(h:p:=by rw[HV.out];rfl):p:=h
theorem fA(h:p:=by simp[Ee]):p:=h
theorem fB(h:p:=by rw[List.length_set];omega):p:=h
theorem fC(h:p:=by rw[Fa,hcl];omega):p:=h
theorem fD(h:p:=by rw[zP];omega):p:=h
theorem fE(h:p:=by intro e;injection e with e;exact hA hp _ U e):p:=h
theorem fF(h:p:=by rw[hel];exact ux):p:=h
theorem fG(h:p:=by rw[HF.out,hf];rfl):p:=h
theorem fH(h:p:=by change Result.ok (Next.value (Value.bool (((lg:Nat):Int)==0))) V=_;rw[hbz.out]):p:=h
theorem fI(h:p:=by change Result.ok (Next.value (Value.bool (((x.lg:Nat):Int)==2))) V=_;rw[asf.out]):p:=h
theorem fJ(h:p:=by change Result.ok (Next.value (Value.bool (((x.lg:Nat):Int)==0))) V=_;rw[hbz.out]):p:=h
theorem fK(h:p:=by intro e;injection e with e;exact gm e):p:=h
theorem fL(h:p:=by rw[Jd r1 J J hq5 J];omega):p:=h
theorem fM(h:p:=by simp only[List.length_nil];omega):p:=h
theorem fN(h:p:=by have:=HH4.out;rw[hD]at this;exact this.d rd.1):p:=h
theorem fO(h:p:=by show(0:Nat)<=999999990;omega):p:=h
theorem fP(h:p:=by rw[hel];exact ER):p:=h
theorem fQ(h:p:=by rw[List.take_of_length_le I]):p:=h
theorem fR(h:p:=by rw[<-hR.out];unfold uW;rw[if_neg H0.out,if_pos hk3,if_neg ej]):p:=h
theorem fS(h:p:=by rw[<-hR.out];unfold uW;rw[if_neg H0.out,if_neg hk3,if_pos hk4,if_neg ej]):p:=h
theorem fT(h:p:=by rw[List.drop_one,List.tail_cons,List.take_of_length_le I]):p:=h
theorem fU(h:p:=by go_num):p:=h
theorem fV(h:p:=by simp only;omega):p:=h
theorem fW(h:p:=by simpa using X):p:=h
theorem fX(h:p:=by simpa using adV):p:=h
theorem fY(h:p:=by simp<;>omega):p:=h
theorem fZ(h:p:=by show 1<=x.left-1;omega):p:=h
theorem gh(h:p:=by show x.left-1<=x.hS;omega):p:=h
theorem gi(h:p:=by show tl.length<=1000;omega):p:=h
theorem gj(h:p:=by exact(Below.refl _ _).alloc (Nat.le_refl _) _):p:=h
theorem gp(h:p:=by exact⟨_,J⟩):p:=h
theorem gu(h:p:=by obtain⟨_,_,_,_,_,_,rfl,hr,_⟩:=h;rfl):p:=h
theorem gv(h:p:=by obtain⟨_,_,_,_,_,_,rfl,hr,_⟩:=h;exact uP hr):p:=h
theorem gA(h:p:=by exact((Below.refl _ _).alloc (Nat.le_refl _) _).alloc ap _):p:=h
theorem gB(h:p:=by exact tN ((((Below.refl _ _).alloc (Nat.le_refl _) _).alloc ap _).alloc az _) hg3 az I):p:=h
theorem gC(h:p:=by exact(Z.vP _ _ [.int .i64 c0,.int .i64 c1,.int .i64 c2,.int .i64 c3] _ ap).G b1 ap):p:=h
theorem gD(h:p:=by exact fun x w=>by simp[part,isAgg,run_underlying underlying4,Hd.vJ]):p:=h
theorem gE(h:p:=by exact wS.uG (w:=wr.drew) (oQ.G (Below.refl _ _).drew) g3 (Z.drew R) ax ax):p:=h
theorem gF(h:p:=by exact tN (w:=wr.drew) bR.drew g3 bR.size I):p:=h
theorem gG(h:p:=by exact⟨_,Y J⟩):p:=h
theorem gH(h:p:=by rw[List.drop_of_length_le bi,List.append_nil]at hb3;exact hb3):p:=h
theorem gI(h:p:=by exact⟨An,cn,At,ct,Am,cm,h.hcs,h.hr,h.hN,h.hT,h.hM,h.afB⟩):p:=h
theorem gJ(h:p:=by exact Y (fun w' M=>⟨tS,v,tS,hL,hwf,by rw[hr];exact zK.nil _,by rw[hr];exact nv.ue M,by rw[hr];exact zK.nil _,by rw[hr];simp[RR.zero]⟩)):p:=h
theorem gK(h:p:=by first|exact B8|exact DW B8 dK):p:=h
theorem gL(h:p:=by rw[IntKind.wrap_u64];exact Int.emod_eq_of_lt I I):p:=h
theorem gM(h:p:=by unfold Addr.add;split<;>simp_all):p:=h
theorem gN(h:p:=by exact fun o1 o2=>((Below.refl _ _).alloc (Nat.le_refl _) _).alloc ap _):p:=h
theorem gO(h:p:=by unfold yx;rw[O];rfl):p:=h
theorem gP(h:p:=by exact run_equalIn_int w 9998 _ _ _ _ _ underlying3):p:=h
theorem gQ(h:p:=by exact tU (uj HW _) (uq (World.grownBy.refl _ _) _ _) (.inl J)):p:=h
theorem gR(h:p:=by unfold DG;rw[O];rfl):p:=h
theorem gS(h:p:=by unfold yd;rw[O];rfl):p:=h
theorem gT(h:p:=by exact tN (hk.alloc hk.size _) hg3 cZ hk.size):p:=h
theorem gU(h:p:=by exact run_equalIn_bool w 9998 _ _ _ underlying4):p:=h
theorem gV(h:p:=by exact List.length_eq_zero_iff.1 I):p:=h
theorem gX(h:p:=by exact hW▸below_drewN HX _):p:=h
theorem gY(h:p:=by exact((Z.vP _ 119 vG _ ap).alloc _).grown hg3 ap):p:=h
theorem gZ(h:p:=by simpa using hr0.out):p:=h
theorem hH(h:p:=by exact((Z.new w _ h.vJ).alloc _).G b1 az):p:=h
theorem hI(h:p:=by exact HE.out.trans (if_pos ax)):p:=h
theorem hU(h:p:=by exact fun o1 o2 o3 o4=>((((Below.refl _ _).alloc (Nat.le_refl _) _).alloc ap _).alloc az _).alloc az _):p:=h
theorem ic(h:p:=by exact Y (fun w' _=>by rw[<-hr];exact⟨tS,tS,tS,hL,hwf,by rw[hr];exact zK.nil _,by rw[hr];exact zK.nil _,by rw[hr];exact zK.nil _,by rw[hr];simp[Ee,RR.zero]⟩)):p:=h
theorem ie(h:p:=by exact tN (w:=wz.drew) HBz.drew gy HBz.size (Nat.le_refl _)):p:=h
theorem ig(h:p:=by exact uq (World.grownBy.refl _ _) _ _):p:=h
theorem ij(h:p:=by simpa[Hd.ok,and_assoc]using O):p:=h
theorem ik(h:p:=by exact decide_eq_false I):p:=h
theorem il(h:p:=by simpa using U):p:=h
theorem im(h:p:=by simpa using HE5.out):p:=h
theorem io(h:p:=by exact((B0.alloc _).alloc _).grown hg3 az):p:=h
theorem ir(h:p:=by rw[h.hcs];exact uP h.hr):p:=h
theorem iu(h:p:=by simpa using he):p:=h
theorem iw(h:p:=by rw[hLL];simp only[List.length_set];exact agu):p:=h
theorem ix(h:p:=by exact wS.CY (v':=v5) hE oq4 S5 o5):p:=h
theorem iy(h:p:=by exact hW▸aeq.drewN _):p:=h
theorem iz(h:p:=by exact tN ((Below.refl _ _).alloc (Nat.le_refl _) _) hg4 ap (Nat.le_refl _)):p:=h
theorem iA(h:p:=by exact Nat.lt_of_lt_of_le B0.lt b2.size):p:=h
theorem iB(h:p:=by rw[hcs];exact yJ _ _ _ _ _):p:=h
theorem iC(h:p:=by exact xp cU):p:=h
theorem iD(h:p:=by simpa using he0):p:=h
theorem iE(h:p:=by simpa[Value.ownBlock]using O):p:=h
theorem iF(h:p:=by exact tN HB hg6 HB.size I):p:=h
theorem iG(h:p:=by exact fun x w=>by simp[part,isAgg,run_underlying underlying3,Hd.vJ]):p:=h
theorem iH(h:p:=by exact(Below.refl _ _).drew):p:=h
theorem iI(h:p:=by exact tN M g8 M.size hz):p:=h
theorem iJ(h:p:=by simpa using hx):p:=h
theorem iK(h:p:=by simpa using hc):p:=h
theorem iL(h:p:=by rw[hr];exact⟨J,J⟩):p:=h
theorem iM(h:p:=by rw[X.hcs];rfl):p:=h
theorem iN(h:p:=by exact(((Below.refl _ _).alloc (Nat.le_refl _) _).alloc ap _).alloc az _):p:=h
theorem iO(h:p:=by exact⟨ahb.grown hg6 ap,aha.grown hg6 ap⟩):p:=h
theorem iP(h:p:=by unfold EF;rw[O];rfl):p:=h
theorem iQ(h:p:=by rw[hcs];exact uP hr):p:=h
theorem iR(h:p:=by obtain⟨_,_,_,_,_,_,rfl,hr,_⟩:=hRR;rfl):p:=h
theorem iS(h:p:=by obtain⟨_,_,_,_,_,_,rfl,hr,_⟩:=hR;rfl):p:=h
theorem iT(h:p:=by simpa using h3):p:=h
theorem iU(h:p:=by simp[r.ad.ur h.1]):p:=h
theorem iV(h:p:=by exact hW▸below_drewN hB nq):p:=h
theorem iW(h:p:=by exact vD R4 ow2 ax g5):p:=h
theorem iX(h:p:=by simpa using hty):p:=h
theorem iY(h:p:=by rw[hce];exact uV.xg _):p:=h
theorem iZ(h:p:=by exact⟨An,cn,none,0,none,0,J,⟨h16,J⟩,h.hN,xj.nil w,xj.nil w,by simp[uR,RR.zero]⟩):p:=h
theorem ja(h:p:=by rw[h.hcs];exact xi h.ip):p:=h
theorem jc(h:p:=by exact IntWalk.i64_in _ I):p:=h
theorem jd(h:p:=by rw[<-HOF.out,decide_eq_false hcl];simp):p:=h
theorem je(h:p:=by exact⟨An,cn,At,ct,none,0,J,⟨J,J⟩,h.hN,h.hT,xj.nil w,by simp[uR,RR.zero]⟩):p:=h
theorem jf(h:p:=by exact U3 HG.out (OH U HC.out)):p:=h
theorem jg(h:p:=by exact tN (HBr.alloc HBr.size _) hg3 df HBr.size):p:=h
theorem jh(h:p:=by exact Z.grown R5 g6 az):p:=h
theorem ji(h:p:=by rw[<-HOF.out,decide_eq_false hty];rfl):p:=h
theorem jj(h:p:=by exact fun i hi=>(hD9 i hi).imp id (fun h=>by omega)):p:=h
theorem jk(h:p:=by exact Y (fun w' _=>⟨tS,tS,tS,hL,⟨J,J⟩,zK.nil _,zK.nil _,zK.nil _,az⟩)):p:=h
theorem jl(h:p:=by rw[vK];exact hs'):p:=h
theorem jm(h:p:=by exact tN aim hg6 aim.size I):p:=h
theorem jn(h:p:=by exact Lb hL hwf):p:=h
theorem jo(h:p:=by rw[<-hO.out,Ue hx,hqr,decide_eq_true hop,decide_eq_true hid];rfl):p:=h
theorem jp(h:p:=by simpa using hcl):p:=h
theorem jq(h:p:=by exact Y (fun V hV=>(B1.G hV B1.lt).wk 24 0 18 I _ underlying24 J AZ _ HCA.out)):p:=h
theorem jr(h:p:=by exact tL aw az b1):p:=h
theorem js(h:p:=by simpa using h6):p:=h
theorem jt(h:p:=by exact hk.trans (Kr.1.mono hk.size)):p:=h
theorem ju(h:p:=by simp only[bne_iff_ne,ne_eq];omega):p:=h
theorem jv(h:p:=by rw[hM9,List.length_set];exact hcl):p:=h
theorem jw(h:p:=by exact tU (zk G7 _) g8 (.inr (fun k O=>by injection O with O;omega))):p:=h
theorem jx(h:p:=by rw[<-LS.out];simpa only[uV.YB,List.append_assoc]using hb4):p:=h
theorem jy(h:p:=by rw[hce];exact uV.ur _ ty):p:=h
theorem jz(h:p:=by unfold yn;rw[if_neg I,if_neg I,if_neg I,if_pos h,if_pos hn]):p:=h
theorem jA(h:p:=by exact hW▸k1.drewN nq):p:=h
theorem jB(h:p:=by exact hW▸k0.drewN nq):p:=h
theorem jC(h:p:=by exact fun o1 o2 o3=>(((Below.refl _ _).alloc (Nat.le_refl _) _).alloc ap _).alloc az _):p:=h
theorem jD(h:p:=by rw[<-hE];unfold yd;rcases O with O|O<;>rw[O]<;>rfl):p:=h
theorem jE(h:p:=by have:=HAL.out;omega):p:=h
theorem jF(h:p:=by exact(Z.vP (w.alloc (.cells uw.toArray 50)) 142 [.int .i64 0] _ ap).G b1 ap):p:=h
theorem jG(h:p:=by exact Fa):p:=h
theorem jH(h:p:=by exact fun x hx w=>by simp[part,isAgg,run_underlying underlying3,x.JX hx]):p:=h
theorem jI(h:p:=by exact Y (fun V hV=>tV underlying3 J ((B1.G hV B1.lt).K 18 p18))):p:=h
theorem jJ(h:p:=by exact H5.grown g6 H5.size O5.base):p:=h
theorem jK(h:p:=by exact tN ((Below.refl _ _).alloc (Nat.le_refl _) _) g4 ap (Nat.le_refl _)):p:=h
theorem jL(h:p:=by exact tN ((Below.refl _ _).alloc (Nat.le_refl _) _) g3 ap (Nat.le_refl _)):p:=h
theorem jM(h:p:=by simpa using hne):p:=h
theorem jN(h:p:=by simpa[Value.ownBlock]using he):p:=h
theorem jO(h:p:=by simp[zP]):p:=h
theorem jP(h:p:=by obtain⟨_,_,_,_,_,_,rfl,hr,_⟩:=h;exact Iy hr):p:=h
theorem jQ(h:p:=by obtain⟨_,_,_,_,_,_,rfl,hr,_⟩:=h;exact Ix hr):p:=h
theorem jR(h:p:=by obtain⟨_,_,_,_,_,_,rfl,hr,_⟩:=h;exact Iw hr):p:=h
theorem jS(h:p:=by obtain⟨_,_,_,_,_,_,rfl,hr,_⟩:=h;exact Iv hr):p:=h
theorem jT(h:p:=by unfold uV.check;rw[if_neg hf,if_pos h6,if_pos (.inr hz2)]):p:=h
theorem jU(h:p:=by rw[<-ho];unfold wY;rw[X];simp only;rw[if_pos hq]):p:=h
theorem jV(h:p:=by rw[<-ho];unfold wY;rw[X];simp only;rw[if_neg hq]):p:=h
theorem jW(h:p:=by rw[<-hO.out];unfold yV;rw[decide_eq_false hop];simp):p:=h
theorem jX(h:p:=by rw[<-hO.out];unfold yV;rw[decide_eq_false hid];simp):p:=h
theorem jY(h:p:=by exact List.take_of_length_le (Nat.le_refl _)):p:=h
theorem jZ(h:p:=by exact Y (fun hl=>by rw[J1 pack hc dh,<-PL.eq];exact⟨J,J⟩)):p:=h
theorem j4(h:p:=by unfold uV.check;rw[if_neg hf,if_pos h6,if_pos (.inl hz)]):p:=h
theorem j8(h:p:=by rw[<-HOF.out,decide_eq_true hty,decide_eq_true hcl];rfl):p:=h
theorem j9(h:p:=by exact Y (by rw[<-HV.out,if_neg I,if_neg r2,if_neg (fun h=>by omega)])):p:=h
theorem kc(h:p:=by exact hW▸below_drewN (Below.refl _ _) _):p:=h
theorem ke(h:p:=by exact Y (fun V hV=>hV.wk 42 0 22 I _ underlying42 J ER _ (wg I))):p:=h
theorem kh(h:p:=by exact B1'.grown hg3 az):p:=h
theorem ki(h:p:=by simpa using hs):p:=h
theorem kj(h:p:=by simpa using h0):p:=h
theorem km(h:p:=by rw[h.hcs];exact AQ h.hr):p:=h
theorem ko(h:p:=by exact fun x w=>by simp[part,isAgg,run_underlying underlying3,uV.cells]):p:=h
theorem kp(h:p:=by exact List.length_pos_iff.2 hne):p:=h
theorem kq(h:p:=by obtain⟨_,_,_,_,_,_,rfl,hr,_⟩:=h;exact hr.1):p:=h
theorem kr(h:p:=by exact tU Gb gc (.inr (fun k O=>by injection O with O;omega))):p:=h
theorem kt(h:p:=by exact tU Ga gb (.inr (fun k O=>by injection O with O;omega))):p:=h
theorem ku(h:p:=by exact tU G9 ga (.inr (fun k O=>by injection O with O;omega))):p:=h
theorem kw(h:p:=by exact tU G8 g9 (.inr (fun k O=>by injection O with O;omega))):p:=h
theorem kx(h:p:=by exact fun V hV=>hV.wk 50 0 14 I _ underlying50 J ux _ (wg I)):p:=h
theorem ky(h:p:=by unfold yx;rcases O with O|O<;>rw[O]<;>rfl):p:=h
theorem kA(h:p:=by unfold DG;rcases O with O|O<;>rw[O]<;>rfl):p:=h
theorem kB(h:p:=by unfold uV.check;rw[if_neg hf,if_pos h6,if_neg I]):p:=h
theorem kC(h:p:=by simp[hdl]):p:=h
theorem kD(h:p:=by exact decide_eq_false U):p:=h
theorem kE(h:p:=by exact tL (w:=w.drew) (Below.refl _ _).drew (Nat.le_refl _) k1'):p:=h
theorem kG(h:p:=by rw[<-afE];simp;omega):p:=h
theorem kH(h:p:=by rw[<-hM];simp):p:=h
theorem kI(h:p:=by rw[HMc.out,HMb.out,HMa.out,HM9.out,HCS.out];rfl):p:=h
theorem kJ(h:p:=by exact Y (fun hl=>by rw[Fj pack hc dh];exact⟨J,J⟩)):p:=h
theorem kK(h:p:=by exact Z.vP _ 50 uw _ ap):p:=h
theorem kL(h:p:=by unfold yw;rw[if_pos h];simp[OL,vK]):p:=h
theorem kO(h:p:=by exact Y ⟨hX,hl5,I,I,fun i hi=>by have:=hD i hi;omega⟩):p:=h
theorem kP(h:p:=by exact(Fv (x:={x with left:=x.left-1}) hd).trans hr.symm):p:=h
theorem kQ(h:p:=by rw[hL,hr];rfl):p:=h
theorem kR(h:p:=by exact decide_eq_true U):p:=h
theorem kS(h:p:=by unfold yn;rw[if_neg U,if_pos h,if_neg hn]):p:=h
theorem kU(h:p:=by rw[<-hX];exact(Z.vP _ _ _ _ ap).alloc _):p:=h
theorem kV(h:p:=by simpa using hk1):p:=h
theorem kW(h:p:=by simp[JG]at h;omega):p:=h
theorem kX(h:p:=by exact hW▸xV (uq (World.grownBy.refl _ _) 28 _)):p:=h
theorem kY(h:p:=by exact(hB.cell (p:=⟨ba,oa+k,none⟩) la).trans (xa k Hh)):p:=h
theorem kZ(h:p:=by unfold xB;rw[if_neg (by rw[hs];decide)]):p:=h
theorem ld(h:p:=by rw[<-HO.out,Nat.sub_self];exact IB):p:=h
theorem lh(h:p:=by exact⟨_,vt,vm,hMz,⟨hwf.1,hwf.2⟩,Nc,tc,uc,afB⟩):p:=h
theorem lj(h:p:=by rw[<-hO.out];unfold yV;rw[hqr];rfl):p:=h
theorem lk(h:p:=by exact DW B8 dK):p:=h
theorem lm(h:p:=by exact M.size):p:=h
theorem lr(h:p:=by exact tL (w:=w4.drew) (below_drewN HB' 1) HB'.size b5):p:=h
theorem lx(h:p:=by exact((Below.refl W.heap.size W).drew).alloc (Nat.le_refl _) _):p:=h
theorem ly(h:p:=by exact tU G2 gf (.inr (fun k O=>yI ow2 k O))):p:=h
theorem lz(h:p:=by exact Y ⟨I,asb,fun i hi=>by have:=hD i hi;omega⟩):p:=h
theorem lC(h:p:=by unfold uo;rw[if_neg (fun h=>O h.2)]):p:=h
theorem lD(h:p:=by unfold uo;rw[if_neg (fun h=>U h.1)]):p:=h
theorem lE(h:p:=by unfold wX;rw[U];simp only;rw[X]):p:=h
theorem lF(h:p:=by unfold uV.check;rw[if_neg hf,if_neg h6]):p:=h
theorem lG(h:p:=by simp[vy]):p:=h
theorem lH(h:p:=by simp[vo.BD];omega):p:=h
theorem lI(h:p:=by exact Cb HG.out (U5 U HC.out agO hps HD.out hpb)):p:=h
theorem lJ(h:p:=by exact uy.ue O5 (fun _ x=>x) (fun _ _ x=>x.ue hso)):p:=h
theorem lK(h:p:=by exact Nat.le_trans (zE n) hs'):p:=h
theorem lM(h:p:=by unfold wv;rw[U];simp only;rw[X]):p:=h
theorem lN(h:p:=by simp[maxLen];omega):p:=h
theorem lO(h:p:=by rw[<-Km,List.take_append_drop]):p:=h
theorem lP(h:p:=by rw[List.length_append,tR,hB]):p:=h
theorem lQ(h:p:=by rw[List.length_append,tR,hA]):p:=h
theorem lR(h:p:=by exact fun k h=>by simpa using h):p:=h
theorem lS(h:p:=by exact fun W=>by rw[run_string_add_sum W _ _ aY,Ki]):p:=h
theorem lT(h:p:=by exact fun W=>by rw[run_string_add_sum W _ _ aX,Ki]):p:=h
theorem lU(h:p:=by unfold uo;rw[if_pos ⟨J,O⟩]):p:=h
theorem lV(h:p:=by simpa using(congrArg Prod.fst ha).symm):p:=h
theorem lW(h:p:=by exact hW▸(js2 hpl O (.int .u8 (a.toNat:Int))).drew):p:=h
theorem lX(h:p:=by congr 1):p:=h
theorem lY(h:p:=by unfold xo;rw[if_neg U,if_pos X]):p:=h
theorem lZ(h:p:=by rw[<-hX];exact Z.vP _ _ _ _ ap):p:=h
theorem l6(h:p:=by rw[List.drop_eq_getElem_cons I];rfl):p:=h
theorem l8(h:p:=by exact hf 1 _ J):p:=h
theorem l9(h:p:=by exact hf 0 _ J):p:=h
theorem ma(h:p:=by exact Y (fun k O=>MK.r _ di)):p:=h
theorem mc(h:p:=by unfold yn;rw[if_pos h,if_neg hn]):p:=h
theorem me(h:p:=by rw[<-hO.out];exact WX hll):p:=h
theorem mf(h:p:=by rw[hMc,List.length_set];exact lMb):p:=h
theorem mg(h:p:=by rw[hMb,List.length_set];exact lMa):p:=h
theorem mh(h:p:=by rw[hMa,List.length_set];exact lM9):p:=h
theorem mi(h:p:=by rw[h.hcs];exact yJ _ _ _ _ _):p:=h
theorem mj(h:p:=by exact hW▸wu.drew _ _ (wu.set O 28 _ _ _ hc)):p:=h
theorem mn(h:p:=by exact Cb HG.out (U4 U HC.out h0 h63 hs hz)):p:=h
theorem mo(h:p:=by exact List.length_filter_le _ _):p:=h
theorem mr(h:p:=by cases tc<;>cases conn<;>simp_all):p:=h
theorem mu(h:p:=by simpa using h4.ne):p:=h
theorem mv(h:p:=by rw[<-ho];unfold wY;rw[X]):p:=h
theorem mw(h:p:=by exact decide_eq_true I):p:=h
theorem mx(h:p:=by exact Y ⟨_,vt,vm,hcs,hwf,hnm,htg,hml,aV⟩):p:=h
theorem my(h:p:=by exact Y (fun W=>by rw[hce];exact MS.out _ ty W)):p:=h
theorem mz(h:p:=by cases aaI<;>simp[vw,vo.BD]):p:=h
theorem mC(h:p:=by simpa[Addr.add]using OM h00):p:=h
theorem mD(h:p:=by rw[<-ht,List.take_append_drop]):p:=h
theorem mE(h:p:=by rw[akP];exact PQ hst.ips _):p:=h
theorem mF(h:p:=by exact hf.zN M M.size (fun i hi h=>by omega)):p:=h
theorem mG(h:p:=by exact Cb HG.out (Qp U HC.out h0 h63 hs)):p:=h
theorem mH(h:p:=by exact Cb HG.out (Ng U HC.out agO hps)):p:=h
theorem mI(h:p:=by exact uD.CY (v:=.slice none 0 0) hE OW2 S2 of):p:=h
theorem mJ(h:p:=by exact Int.le_trans hl2 hst.to2):p:=h
theorem mK(h:p:=by rw[isv];exact PQ hst.ips _):p:=h
theorem mL(h:p:=by unfold uV.check;rw[if_pos hf]):p:=h
theorem mM(h:p:=by exact run_equalIn_int w 9997 _ _ _ _ _ underlying3):p:=h
theorem mN(h:p:=by exact Y (fun hf=>JR Hh HN.out hf)):p:=h
theorem mO(h:p:=by unfold Lt.get;rw[dif_pos Hh]):p:=h
theorem mP(h:p:=by unfold Lt.get;rw[dif_neg Hh]):p:=h
theorem mQ(h:p:=by simpa using hin):p:=h
theorem mR(h:p:=by simpa using hck):p:=h
theorem mS(h:p:=by simpa[World.setCell]using hs3):p:=h
theorem mT(h:p:=by simpa[Value.ownBlock]using hv):p:=h
theorem mU(h:p:=by rw[hd];exact UInt8.toNat_lt _):p:=h
theorem mV(h:p:=by rw[hc];exact UInt8.toNat_lt _):p:=h
theorem mW(h:p:=by rw[U.hcs];exact zj ty 4):p:=h
theorem mX(h:p:=by rw[U.hcs];exact zj ty 3):p:=h
theorem mY(h:p:=by rw[U.hcs];exact zj ty 2):p:=h
theorem mZ(h:p:=by rw[U.hcs];exact zj ty 1):p:=h
theorem m5(h:p:=by rw[h.hcs];exact zj h.ip 0):p:=h
theorem m6(h:p:=by exact Cb HG.out (Yl U HC.out h63 agO)):p:=h
theorem m8(h:p:=by exact Y (fun hf=>LF Hh HN.out hf)):p:=h
theorem nb(h:p:=by exact Y J):p:=h
theorem nc(h:p:=by simpa using hz):p:=h
theorem nf(h:p:=by simpa using hy):p:=h
theorem ng(h:p:=by simpa using ht):p:=h
theorem nh(h:p:=by simpa using hf):p:=h
theorem ni(h:p:=by simpa using h5):p:=h
theorem np(h:p:=by simp[hl]):p:=h
theorem nw(h:p:=by rw[hx0];exact Nat.zero_le _):p:=h
theorem nx(h:p:=by rw[h.hcs];exact xi ty):p:=h
theorem ny(h:p:=by rw[List.getElem_append_left]):p:=h
theorem nA(h:p:=by rcases h with h|h<;>omega):p:=h
theorem nB(h:p:=by exact((Z.new w 50 uw).alloc _).G b1 az):p:=h
theorem nC(h:p:=by unfold Jj;rw[hLA,afu]):p:=h
theorem nD(h:p:=by unfold xB;rw[if_pos hs]):p:=h
theorem nF(h:p:=by rw[IntKind.wrap_u64];omega):p:=h
theorem nG(h:p:=by exact Y (fun x h=>abd (hO.out.trans h))):p:=h
theorem nH(h:p:=by unfold xo;rw[if_pos U]):p:=h
theorem nI(h:p:=by rw[EL];exact hb3):p:=h
theorem nJ(h:p:=by rw[hx0];rfl):p:=h
theorem nK(h:p:=by rw[hvt];rfl):p:=h
theorem nL(h:p:=by rw[hcl];rfl):p:=h
theorem nM(h:p:=by rw[hce];exact Ka ty):p:=h
theorem nN(h:p:=by rw[DE.out,hE,if_pos hjl]):p:=h
theorem nO(h:p:=by rw[DE.out,hE,if_neg hjl]):p:=h
theorem nP(h:p:=by have:=XY width;omega):p:=h
theorem nQ(h:p:=by exact fun W hW=>(hW.cell asr).trans ago):p:=h
theorem nR(h:p:=by exact xp (x.JX hx)):p:=h
theorem nS(h:p:=by rw[hcs];exact Iu hr):p:=h
theorem nT(h:p:=by rw[hcs];exact AQ hr):p:=h
theorem nU(h:p:=by rw[hce];exact abg _):p:=h
theorem nV(h:p:=by rw[hL];rfl):p:=h
theorem nW(h:p:=by exact Cb HG.out (by simp[wV,U])):p:=h
theorem nX(h:p:=by simp[vw]at hi;omega):p:=h
theorem nY(h:p:=by rw[HQ.out,vK]):p:=h
theorem nZ(h:p:=by exact Y (fun h=>by rw[HR.out,h];rfl)):p:=h
theorem n6(h:p:=by exact(Z.vP _ 42 (xA e) _ ap).alloc _):p:=h
theorem n8(h:p:=by simp at hn;simp;omega):p:=h
theorem og(h:p:=by rw[<-HOF.out];simp):p:=h
theorem oh(h:p:=by rw[hE.out,if_neg hx]):p:=h
theorem oi(h:p:=by have:=hst.trl;omega):p:=h
theorem oj(h:p:=by exact hf 2 _ J):p:=h
theorem ol(h:p:=by exact M.alloc M.size _):p:=h
theorem om(h:p:=by exact decide_eq_false h0):p:=h
theorem oo(h:p:=by exact Z.grown R7 g8 az):p:=h
theorem ot(h:p:=by
 clear M;obtain⟨vn,vt,vm,hcs,hwf,-,n2,n3,afB⟩:=hO8;have HCS:=Y hcs;clear hcs;obtain⟨An,cn,hvn,-⟩:=N8.form;subst hvn;go_wp2_with(refine tO (.store 26 (.tmp 79) (.tmp 78)) J (af J gn 0 (.slice An nm.length cn) B8 I vh ?_));intro w9 B9 g9 _;obtain⟨M9,hM9⟩:∃h2,h2=cs.set 0 (.slice An nm.length cn):=gp;rw[<-hM9]at B9;have lM9:M9.length=33:=jv;have HM9:=Y hM9;clear hM9;have S9:=ug.uG g9 B8 ax;have R9:Ef w9 g m (q:Int) 0:=Z.grown R8 g9 az;have o9:=o8.yG g9 HA.out S9;have N9:=N8.ue S9;have t9:=n2.ue S9;have u9:=n3.ue S9;have G9:w.grownBy w9 (some g):=kw;clear R8 o8 N8 n2 n3 G8 g9 B8 S9;go_wp2_with(refine tO (.store 3 (.tmp 81) (.tmp 80)) J (af J gn 1 (.int .i64 (E:Int)) B9 I uB ?_));intro wa Ba ga _;obtain⟨Ma,hMa⟩:∃h2,h2=M9.set 1 (.int .i64 (E:Int)):=gp;rw[<-hMa]at Ba;have lMa:Ma.length=33:=mh;have HMa:=Y hMa;clear hMa;have Sa:=ug.uG ga B9 ax;have Ra:Ef wa g m (q:Int) 0:=Z.grown R9 ga az;have oa:=o9.yG ga HA.out Sa;have Na:=N9.ue Sa;have ta:=t9.ue Sa;have ua:=u9.ue Sa;have Ga:w.grownBy wa (some g):=ku;clear R9 o9 N9 t9 u9 G9 ga B9 Sa;go_wp2_with(refine tO (.store 3 (.tmp 83) (.tmp 82)) J (af J gn 2 (.int .i64 (N:Int)) Ba I uB ?_));intro wb Bb gb _;obtain⟨Mb,hMb⟩:∃h2,h2=Ma.set 2 (.int .i64 (N:Int)):=gp;rw[<-hMb]at Bb;have lMb:Mb.length=33:=mg;have HMb:=Y hMb;clear hMb;have Sb:=ug.uG gb Ba ax;have Rb:Ef wb g m (q:Int) 0:=Z.grown Ra gb az;have ob:=oa.yG gb HA.out Sb;have Nb:=Na.ue Sb;have tb:=ta.ue Sb;have ub:=ua.ue Sb;have Gb:w.grownBy wb (some g):=kt;clear Ra oa Na ta ua Ga gb Ba Sb;go_wp2_with(refine tO (.store 3 (.tmp 85) (.tmp 84)) J (af J gn 3 (.int .i64 (ak:Int)) Bb I uB ?_));intro wc Bc gc _;obtain⟨Mc,hMc⟩:∃h2,h2=Mb.set 3 (.int .i64 (ak:Int)):=gp;rw[<-hMc]at Bc;have lMc:Mc.length=33:=mf;have HMc:=Y hMc;clear hMc;have Sc:=ug.uG gc Bb ax;have Rc:Ef wc g m (q:Int) 0:=Z.grown Rb gc az;have oc:=ob.yG gc HA.out Sc;have Nc:=Nb.ue Sc;have tc:=tb.ue Sc;have uc:=ub.ue Sc;have Gc:w.grownBy wc (some g):=kr;have hMz:Mc=vy (.slice An nm.length cn) vt vm {r0 with name:=nm,E:=E,N:=N,ak:=ak}:=kI;have OW:wR wc Mc {r0 with name:=nm,E:=E,N:=N,ak:=ak}:=lh;clear Rb ob Nb tb ub Gb gc Bb Sc HMc HMb HMa HM9 HCS hMz Nc tc uc lM9 lMa lMb hcl hwf afB;have ZS:Hid (aas m aek (acc++[{r0 with name:=nm,E:=E,N:=N,ak:=ak}]) (n-(k+1)) ((q:Int)+sz) x):=Y ⟨fun h0=>by
  rcases hx with⟨_,hr⟩|⟨hx,_⟩
  ·have:=HE.out;rw[hr]at this;refine⟨q+sz,I,hqs,?_⟩;rw[<-Fk this];exact HB.out
  ·exact absurd h0 hx,fun h0=>by
  rcases hx with⟨U,_⟩|⟨_,hr⟩
  ·exact absurd U h0
  ·
   have:=HE.out;rw[hr]at this;exact HB.out.symm.trans (BH this)⟩
 generalize({r0 with name:=nm,E:=E,N:=N,ak:=ak}:RR)=r9 at*;clear HE HB hx;have c1:=Z.K Rc 1 J;have hq1:(q:Int)+sz<=131072:=I;go_wp2_with(refine tO (.store 3 (.tmp 94) (.tmp 92)) J (af J g 1 (.int .i64 ((q:Int)+sz)) Rc ap uB ?_));intro wd Bd gd _;have Sd:=ug.uG gd Rc ax;have Dd:=Bc.grown gd az;have od:=oc.uG gd Rc ax ax;have Gd:=vi Gc gd;have OWd:=OW.ue Sd;clear c1 Rc oc Gc Bc gd Sd OW hq1;go_wp2_with(refine tO (.store 142 (.tmp 98) (.tmp 96)) J (af J g 2 (.int .i64 x) Bd ap y7 ?_));intro we Be ge _;have Se:=ug.uG ge Bd ax;have De:=Dd.grown ge az;have oe:=od.uG ge Bd ax ax;have Ge:=vi Gd ge;have OWe:=OWd.ue Se;have Re:Ef we g m ((q:Int)+sz) x:=Be;have o1:=Y OWe.one;clear Dd od Gd Bd ge Se OWd Be;have kn:Below we.heap.size we (we.alloc (.cells Mc.toArray 119)):=gj;obtain⟨css,ow,hE⟩:=oe;have ow2:=vQ ow kn;have Bn:=Z.new we 119 Mc;have hrg:(we.alloc (.cells Mc.toArray 119)).rangeAt we.heap.size 0 Mc:=by have:=Bn.range 0 33 I;rwa[List.drop_zero,List.take_of_length_le I]at this
 have G2:=zk Ge (.cells Mc.toArray 119);have hs1:=Ge.size;have R2:=Z.G Re kn (Z.lt Re);replace hE:=hE.mono (fun _ _ x=>x.ue (ug.G kn));have OW2:=OWe.ue (ug.G kn);go_wp2_with(first
  |(refine tO (.load 119 (.tmp 12)) rfl ?_;go_must(refine tP rfl _ _ rfl gn 0 rfl De 33 I _ underlying119 rfl uu Mc (wg I) ?_))
  |(refine tO (.buildSlice 48 1 #[(0,.tmp 100)]) rfl ?_;go_must(refine Li rfl (.tmp 100) rfl Mc rfl lMc ?_))
  |(at_builtin;go_must(refine AG _ rfl (.tmp 99) (.tmp 101) rfl w.heap.size _ acc.length css.flatten rfl ow2 az (some ⟨we.heap.size,0,none⟩) 1 1 Mc rfl (fun _=>⟨we.heap.size,0,J,hrg⟩) I o1.out I (acc.length+1) J ?_)))
 intro A' c' wf of gf;have S2:=ug.own ow2 ax gf;have o3:uD wf w.heap.size (.slice A' (acc.length+1) c') (acc++[r9]):=mI;have R3:Ef wf g m ((q:Int)+sz) x:=vD R2 ow2 ax gf;have G3:w.grownBy wf (some g):=ly;clear Re R2 Ge G2 ow ow2 hE OWe OW2 Bn hrg S2 gf of kn o1 De;go_wp2_with fail;go_roundw
 case rel=>exact⟨k+1,acc++[r9],(q:Int)+sz,x,I,fU,Y dA,o3,R3,G3,ZS⟩
 case measure=>simp[intOf];omega
 ):p:=h
theorem ox(h:p:=by
 intro w3 hb3 hg3 _;rw[List.drop_of_length_le bi,List.append_nil]at hb3;have S3:=ug.uG hg3 A2 ax;have HB3:=tN hk hg3 hk.size (Nat.le_refl _);clear hg3 A2 B2 hk;go_wp2_with fail;refine uH J w.heap.size J hb3 _ underlying119 J cf J (.int .i64 0) J ?_;exact⟨L,J,OW.out _ S3,HB3⟩
 ):p:=h
theorem oy(h:p:=by
 go_wp2_with(first
  |(refine tO (.load 119 (.tmp 76)) rfl ?_;go_must(refine vM rfl 119 (.tmp 76) rfl ba (oa+k*33) rfl ck hRk _ underlying119 rfl dd ?_))
  |(refine tO (.store 119 (.tmp 17) (.tmp 77)) rfl (ab rfl wr.heap.size 0 ck (Z.vP _ _ vG _ ap) bi dd ck1.out ?_)))
 intro w4 hb4 hg4 hs4;rw[List.drop_of_length_le bi,List.append_nil]at hb4;have bo:al wr w4:=iz;have W4:=Wr.G bo;have K4:=Kr.trans (vY.zq bo tK);have HB4:=tL HBr HBr.size bo;have afL:=Nat.le_trans tK bo.size;clear hg4 hs4 hRk HBr bo Wr Kr tK;go_wp2_with(refine tO (.load 119 (.tmp 17)) J ?_;go_must(refine tP J _ _ J wr.heap.size 0 J hb4 33 I _ underlying119 J uu ck (wg I) ?_));refine(RC.out _ W4 HB4 afL).mono ?_;rintro _ w5 ⟨rfl,W5,K5⟩;have K5':=K4.trans K5;clear RC hb4 W4 K4 HB4 afL K5;have RM:=Y (fun hl=>QF w2.heap.size gw sn.1 p sn.2 0 w5 W5 hl);by_cases h5:65535<sn.1.length
 ·obtain⟨rfl,rfl⟩:=RL.out (Nat.lt_of_lt_of_le h5 LN.out);have RM':=Y (RM.out aj0);rw[if_pos ⟨J,h5⟩]at RM';clear RM aj0;go_wp2_with fail;refine RM'.out.mono ?_;rintro _ w6 ⟨rfl,rfl⟩;clear RM' h5 LN ST;go_wp2_with fail;go_ret2;exact uf.mk J (hk.trans (K5'.1.mono hk.size))
 ·
  have RM':=Y (RM.out I);rw[if_neg (fun h=>h5 h.2)]at RM';clear RM;go_wp2_with fail;refine RM'.out.mono ?_;rintro _ w6 ⟨rfl,rfl⟩;clear RM' LN;go_wp2_with fail;go_roundw
  case rel=>exact⟨k+1,I,fU,by rw[HSN.out];omega,by rw[HSN.out];exact W5,K5'⟩
  case measure=>simp[intOf];omega
 ):p:=h
theorem oz(h:p:=by
 go_wp2_with fail;refine leaves_cons (f:=214) (args:= #[.pointer (some ⟨w.heap.size,0,none⟩),.pointer (some ⟨w.heap.size+1,0,none⟩)]) ap aR ?_;refine(WC w.heap.size _ (yJ _ _ _ _ _) _ _ _ M3 E3).mono ?_;rintro e u' w4 ⟨rfl,rfl,c0,c1,k4⟩;have b4:=b3.trans k4;simp only[settle];refine Gw J J c0 J c1 ?_;exact⟨NE.out _ J,J,b4⟩
 ):p:=h
theorem oB(h:p:=by
 go_wp2_with(first
  |(refine tO (.load 119 (.tmp 66)) rfl ?_;go_must(refine vM rfl 119 (.tmp 66) rfl ba (oa+k*33) rfl ck hRk _ underlying119 rfl dd ?_))
  |(refine tO (.store 119 (.tmp 12) (.tmp 67)) rfl (ab rfl wr.heap.size 0 ck (Z.vP _ _ vG _ ap) bi dd ck1.out ?_)))
 intro w3 hb3 hg3 hs3;rw[List.drop_of_length_le bi,List.append_nil]at hb3;have HB3:al w w3:=jg;clear hg3 hs3 hRk HBr;go_wp2_with(refine tO (.load 119 (.tmp 12)) J ?_;go_must(refine tP J _ _ J wr.heap.size 0 J hb3 33 I _ underlying119 J uu ck (wg I) ?_));refine(CK.out _ HB3).mono ?_;rintro _ w4 ⟨rfl,b4⟩;have HB4:=tL HB3 HB3.size b4;clear CK hb3 b4 HB3;by_cases he0:ek=0
 ·
  subst he0;go_wp2_with fail;go_roundw
  case rel=>exact⟨k+1,I,fU,Y (HJ2.out trivial),HB4⟩
  case measure=>simp[intOf];omega
 ·have e1:(ek !=0)=true:=iD;have e2:=FK.out he0;subst e2;have hr0:=HEX.out.trans (if_pos he0);subst hr0;clear HEX FK HJ2 he0;go_wp2_with fail;go_ret;exact uf.mk J HB4
 ):p:=h
theorem oC(h:p:=by
 intro w8 B8 g8 _;replace B8:Z w8 (w.heap.size+1+1) 50 uw:=gK;have HB8:=tN HB g8 HB.size I;clear g8 HB B4;go_wp2_with fail;refine uH J (w.heap.size+1+1) J B8 _ underlying50 J ux J (.bool false) J ?_;rw[HF.out];exact⟨uw,J,uA.zero _,HB8⟩
 ):p:=h
theorem oD(h:p:=by
 go_wp2_with fail;refine(C.out).mono ?_;intro e1 w9 hx;have hx:=hx.back FW.out;obtain⟨v,D',rfl,hx2⟩:=hx;have HX:=Y hx2;clear hx2 hx;go_wp2_with fail;go_ret;rw[HR2.out];exact⟨v,D',J,HX.out⟩
 ):p:=h
theorem oE(h:p:=by
 intro w3 hb3 hg3 _;rw[List.drop_of_length_le bi,List.append_nil]at hb3;have HB3:=tN hk hg3 hk.size (Nat.le_refl _);clear hg3 A2 hk;go_wp2_with fail;refine uH J w.heap.size J hb3 _ underlying119 J cD J (.int .i64 5) J ?_;exact⟨hx,J,HB3⟩
 ):p:=h
theorem oF(h:p:=by
 clear M M4 M3 E3 C3 b3 kn ow hE ow2 Bn hrg oq4 oq3 b4 R3 R4 E4 C4 hr5 o5 g5 S5 q5 M5 R5 E5 C5 b5 g6 g3 QC hcl;go_wp2_with fail;go_roundw
 case rel=>exact⟨k+1,acc++[q],p',_,I,fU,Y dA,M6,q6,R6,l3,E6,C6,b6,HO1⟩
 case measure=>simp[intOf];omega
 ):p:=h
theorem oG(h:p:=by
 have ak3:¬(j3:Int)<m.length:=I;obtain rfl:aek= .ok ⟨hd,acc,l1,l2,l3⟩:=nO;obtain⟨L,hL⟩:∃L,L=yh hd (.slice A acc.length c) (.slice A1 l1.length c1) (.slice A2 l2.length c2') (.slice A3 l3.length c3):=gp;have lL:L.length=14:=nV;have an9:=Y (show ∀v∈L,v.oneCell'=true by rw[hL];exact zI hd J J J J);rw[<-hL]at M6;have HLL:=Y hL;have q7:=q6.XQ;clear hL CH DE NE hE q6 hjl RZ;go_wp2_with(first
  |(refine tO (.load 50 (.tmp 8)) rfl ?_;go_must(refine tP rfl _ _ rfl g8 0 rfl M6 14 I _ underlying50 rfl ux L (wg I) ?_))
  |(refine tO (.store 50 (.tmp 2) (.tmp 102)) rfl (ab rfl w.heap.size 0 L BZ dK dB an9.out ?_)))
 intro wy By gy _;replace By:=Dw By dK;have HBy:=tN HBz gy HBz.size (Nat.le_refl _);have q8:=q7.uG gy BZ ax ax;have o18:=o16.uG gy BZ ax ax;have o28:=o26.uG gy BZ ax ax;have o38:=o36.uG gy BZ ax ax;clear gy M6 BZ HBz q7 o16 o26 o36 z1 z2;go_wp2_with fail;refine uH J w.heap.size J By _ underlying50 J dB J (.int .i64 0) J ?_;exact⟨L,J,⟨_,_,_,_,HLL.out,q8,o18,o28,o38,(show acc.length<=65535 by omega),(show l1.length<=65535 by omega),(show l2.length<=65535 by omega),(show l3.length<=65535 by omega)⟩,HBy⟩
 ):p:=h
theorem oH(h:p:=by
 go_wp2_with fail;go_ret;exact uf.mk J HB
 ):p:=h
theorem oI(h:p:=by
 go_wp2_with(refine tO (.store 119 (.tmp 10) (.tmp 215)) J (ab J w.heap.size 0 vG A2 bi cD vW ?_));intro w3 hb3 hg3 _;rw[List.drop_of_length_le bi,List.append_nil]at hb3;have HB3:=tN hk hg3 hk.size (Nat.le_refl _);clear hg3 A2 hk;go_wp2_with fail;refine uH J w.heap.size J hb3 _ underlying119 J cD J (.int .i64 y) J ?_;exact⟨hx,J,HB3⟩
 ):p:=h
theorem oJ(h:p:=by
 go_wp2_with(refine tO (.store 119 (.tmp 10) (.tmp 77)) J (ab J w.heap.size 0 vG A2 bi cD vW ?_));intro w3 hb3 hg3 _;rw[List.drop_of_length_le bi,List.append_nil]at hb3;have HB3:=tN hk hg3 hk.size (Nat.le_refl _);clear hg3 A2 hk;go_wp2_with fail;refine uH J w.heap.size J hb3 _ underlying119 J cD J (.int .i64 x) J ?_;exact⟨hx,J,HB3⟩
 ):p:=h
theorem oK(h:p:=by
 intro w6 hb6 hg6 hs6;rw[List.drop_of_length_le bi,List.append_nil]at hb6;have HB6:al w w6:=iF;clear hg6;go_wp2_with fail;refine uH J (w.heap.size+1) J hb6 _ underlying119 J bp J _ J ?_;exact uf.mk J HB6
 ):p:=h
theorem oL(h:p:=by
 go_wp2_with(refine tO (.store 50 (.tmp 4) (.tmp 21)) J (ab J gr 0 uw B4 I ux wT ?_));intro w8 B8 g8 _;replace B8:=DW B8 dK;have HB8:=tN HB4 g8 HB4.size hgr;clear g8 HB4 B4;go_wp2_with fail;refine uH J gr J B8 _ underlying50 J ux J (.bool false) J ?_;rw[HF.out];exact⟨uw,J,uA.zero _,HB8⟩
 ):p:=h
theorem oM(h:p:=by
 go_wp2_with fail;go_ret;exact uf.mk (yf HR.out.symm) ((Below.refl _ _).alloc (Nat.le_refl _) _)
 ):p:=h
theorem oN(h:p:=by
 go_wp2_with(at_builtin;go_must(refine AE _ J (.tmp 23) (.tmp 25) 145 J 5 (.int .u8 0) 1 1 underlying145 Da J ax w.heap.size _ k _ J (World.ownsRow.alloc F _) aS ⟨wr.heap.size,0,none⟩ 1 1 [.int .u8 ((l[k].toNat:Int))] J J (Bf _ _ _ _ J) (zm J) ax aJ I ?_));intro g2 ajx w2 hb2 agM af8;have hB2:=xC (hB.alloc hB.size _) aS (F.alloc _) agM;have hb3:w2.ownsRow w.heap.size 5 1 (.slice (some ⟨g2,0,none⟩) (k+1) ajx) (k+1) (vl (yj (l.take (k+1)))):=by
  have e:vl (yj (l.take (k+1)))=vl (yj (l.take k))++[.int .u8 ((l[k].toNat:Int))]:=by rw[List.take_succ_eq_append_getElem Hh];simp only[yj,List.map_append,AB,List.map_cons,List.map_nil,Oc];rw[HX.out]
  rw[e];exact hb2
 clear F hb2 agM hB;go_wp2_with fail;go_roundw
 case rel=>exact⟨k+1,I,fU,hb3,hB2⟩
 case measure=>simp[intOf];omega
 ):p:=h
theorem oO(h:p:=by
 rcases HT with rfl|⟨rfl,rfl⟩;all_goals
  go_enter func196,ntmps196;go_wp2_with fail;go_ret;exact uf.mk eL HX
 ):p:=h
theorem oP(h:p:=by
 go_wp2_with(refine tO (.load 24 (.tmp 77)) J ?_;go_must(refine tP J _ _ J (w.heap.size+1) 4 J B2 18 I _ underlying24 J Ml ac afE ?_));refine(BJ.out _).mono ?_;rintro _ w3 ⟨rfl,b3⟩;replace A2:=A2.G b3 A2.lt;replace B2:=B2.G b3 B2.lt;replace hk:=tL hk hk.size b3;rw[hLL.out]at B2;clear BJ b3 hLL ll afE hal;simp only[VP];clear B2;go_wp2_with(refine tO (.store 119 (.tmp 10) (.tmp 82)) J (ab J w.heap.size 0 vG A2 bi cD vW ?_));intro w5 hb3 hg3 _;rw[List.drop_of_length_le bi,List.append_nil]at hb3;have HB3:=tN hk hg3 hk.size (Nat.le_refl _);clear hg3 A2 hk;go_wp2_with fail;refine uH J w.heap.size J hb3 _ underlying119 J cD J (.int .i64 5) J ?_;exact⟨ax,J,HB3⟩
 ):p:=h
theorem oT(h:p:=by
 go_ret;exact uf.mk J HB
 ):p:=h
theorem oU(h:p:=by
 go_wp2_with fail;go_ret;exact yi.mk J J
 ):p:=h
theorem oV(h:p:=by
 go_wp2_with fail;go_ret;exact uf.mk J HB9
 ):p:=h
theorem oW(h:p:=by
 go_enter func27,ntmps27;go_wp2_with fail;go_quiet(fail);obtain⟨W,hW⟩:∃W,W=(w.alloc (.cells es.toArray 42)).drewN nq:=gp;rw[<-hW];have HW:al w W:=gX;have EW:Z W w.heap.size 42 es:=iy;have JW:=h.G HW;clear hW c18 c25 d20 aeq h HX;obtain⟨L,ds,hbk,hL,_,_,_,_,_,_,c23,c24,c25,_⟩:=JW.uG;have a23:=hbk.K 23 c23;have a24:=hbk.K 24 c24;have a25:=hbk.K 25 c25;have f23:=hbk.frozen 23;have f24:=hbk.frozen 24;have f25:=hbk.frozen 25;have d0:=EW.K 0 E0;have d21:=EW.K 21 E21;clear c23 c24 c25 EW hL;rw[hop]at a24;clear hop hbk;go_wp2_with fail;go_ret;rw[HR2.out];exact⟨_,J,vI.nil _ _,JW,uj HW _⟩
 ):p:=h
theorem oX(h:p:=by
 rcases HT with rfl|⟨rfl,rfl⟩;all_goals
  go_enter func148,ntmps148;go_wp2_with fail;go_ret;exact uf.mk eL HX
 ):p:=h
theorem oY(h:p:=by
 go_enter func18,ntmps18;go_wp2_with fail;go_quiet(fail);obtain⟨W,hW⟩:∃W,W=(w.alloc (.cells es.toArray 42)).drewN nq:=gp;rw[<-hW];have HW:al w W:=gX;have EW:Z W w.heap.size 42 es:=iy;have JW:=hJ.G HW;clear hW c18 c24 d20 aeq hJ HX;obtain⟨vn,L,ds,hbk,hL,_,_,_,_,_,c23,c24,c25,_⟩:=JW.uG;have a23:=hbk.K 23 c23;have a24:=hbk.K 24 c24;have a25:=hbk.K 25 c25;have f24:=hbk.frozen 24;have f25:=hbk.frozen 25;have d0:=EW.K 0 E0;have d21:=EW.K 21 E21;clear c23 c24 c25 EW hbk hL;rw[hop]at a25;clear hop;go_wp2_with fail;go_ret;rw[HR2.out];exact⟨_,J,vI.nil _ _,⟨p,JW,HK.out⟩,uj HW _⟩
 ):p:=h
theorem oZ(h:p:=by
 have HD:=Y (And.intro D1 (And.intro D2 (And.intro D3 (And.intro KO9 H9))));clear D1 D2 D3 KO9 H9;go_wp2_with fail;all_goals
  go_meet
  case rel=>obtain⟨D1,D2,D3,KO9,H9⟩:=HD.out;exact⟨KO9.uG (uL _ _ _ _) D3 ax,D1.yG ao1 _,D2.yG ao0 _,D3.aeY I J,tN H9 (uL _ _ _ _) H9.size hb3⟩
 ):p:=h
theorem o7(h:p:=by
 go_ret;exact yi.mk J J
 ):p:=h
theorem pa(h:p:=by
 go_wp2_with fail;go_ret;exact uf.mk eL HX
 ):p:=h
theorem pb(h:p:=by
 have tQ:¬(k:Int)<l.length:=I;go_wp2_with fail;go_ret;refine⟨_,J,?_,hB⟩;rw[List.take_of_length_le I]at ho hle;rw[List.take_of_length_le I,Q5 hle];exact ho
 ):p:=h
theorem pc(h:p:=by
 rw[show Hd.ok _=false by simp[Hd.ok];omega];go_enter func158,ntmps158;go_wp2;go_ret;exact uf.mk J aw
 ):p:=h
theorem pd(h:p:=by
 have e2:qe=4:=HQ.out;subst e2;have e3:=FK.out ax;subst e3;have hr0:=HE2.out.trans (if_pos ax);subst hr0;clear HE2 FK HJ2 HQ;go_wp2_with fail;go_ret;exact uf.mk J HBn
 ):p:=h
theorem pf(h:p:=by
 obtain⟨k,O,rfl,rfl⟩:=hrel;have F:=wD n k;by_cases Hh:k<n.length
 ·
  have tQ:(k:Int)<n.length:=I;obtain⟨b,off,rfl,_,xa⟩:=hA I;have c1:=xa k Hh;have S:=Y (C8 n k Hh);have hb2:=wD n (k+1);rw[S.out]at hb2;clear xa;go_wp2_with fail;go_round
  case rel=>exact⟨k+1,I,fU,by rw[S.out];go_num⟩
  case measure=>simp[intOf];omega
 ·have tQ:¬(k:Int)<n.length:=I;go_wp2_with fail;go_ret;exact yi.mk (yf fQ) J
 ):p:=h
theorem pg(h:p:=by
 obtain⟨A',c',rfl⟩:=yg X;unfold Oper.wp execOp;simp only[ho,resolve,invoke,builtin,Sem.run_bind,Sem.run_pure,Result.andThen_ok,List.map_toArray,List.map_cons,List.map_nil,hs,hx,hr];exact hK _ _ (h A' c' w' X h3)
 ):p:=h
theorem ph(h:p:=by
 go_wp2_with fail;go_roundw
 case rel=>exact⟨k+1,I,fU,by rw[FS.out];exact O4,by rw[FS.out];simp;omega,H4⟩
 case measure=>simp[intOf];omega
 ):p:=h
theorem pi(h:p:=by
 go_wp2_with fail;refine(Py r _ I).mono ?_;rintro e w6 ⟨rfl,b6⟩;go_wp2_with fail;refine(Lx g pre post [] r _ (j5.G b6) az).mono ?_;rintro e w7 ⟨rfl,j7,g7⟩;go_wp2_with fail;go_ret;obtain⟨_,_,_,_,_,jb,_⟩:=j5.G b6;exact⟨_,J,by rw[E1.out,(vX _ hno).1,List.append_nil];exact(t5.G b6).grown g7 jb ax,by rw[E2.out,(vX _ hno).2];exact j7,tU (vk f5 b6) g7 (.inl J)⟩
 ):p:=h
theorem pj(h:p:=by
 have H8:=tN VH g8 VH.size X;go_wp2_with fail;refine wQ J g3 J B8' _ underlying92 J eX J ?_;rw[aeq.out];exact uf.mk J H8
 ):p:=h
theorem pk(h:p:=by
 clear M;go_wp2_with fail;refine uH J (w.heap.size+1) J hb6 _ underlying119 J bp J (.int .i64 e) J ?_;exact uf.mk J HB6
 ):p:=h
theorem pn(h:p:=by
 have e:yn m a n E N=Ez (fun l=>{RR.zero with pri:=uN (((m.take (a+n)).drop a).take 2),we:=uN ((((m.take (a+n)).drop a).drop 2).take 2),po:=uN ((((m.take (a+n)).drop a).drop 4).take 2),tg:=l}) (wY (m.take (a+n)) (a+6)):=by unfold yn;rw[if_neg I,if_neg I,if_neg I,if_pos h,if_neg hn];cases wY (m.take (a+n)) (a+6)<;>rfl
 rw[e];exact this
 ):p:=h
theorem pq(h:p:=by
 go_wp2_with fail;go_ret3;exact⟨_,J,wh.nil _,hB,by simp[Value.ownBlock]⟩
 ):p:=h
theorem pr(h:p:=by
 go_wp2_with(refine tO (.load 92 (.tmp 3)) J ?_;go_must(refine tP J _ _ J gz 0 J BV 15 (by rw[ZL];decide) _ underlying92 J z9 _ (wg I) ?_));refine(FV.out _ HV).mono ?_;intro e9 w9 hf;obtain⟨he,hx⟩:=hf.x (L:=L) (D:=dp) (HLT.out.G HV) gne;rw[he];have HX:=Y (hx.back (Fr.G HV));clear he hf FV hx;go_wp2_with fail;go_ret;rw[HR2.out];exact HX.out
 ):p:=h
theorem pt(h:p:=by
 go_wp2_with fail;go_ret;exact uf.mk J ((Below.refl _ _).alloc (Nat.le_refl _) _)
 ):p:=h
theorem pu(h:p:=by rwa[List.drop_zero,List.take_of_length_le I]at this):p:=h
theorem pv(h:p:=by
 go_wp2_with fail;go_round
 case rel=>exact⟨k+1,I,fU,Y (fun j hj h=>by
  by_cases e:j=k
  ·subst e;exact HB.out
  ·
   exact H.out j hj I)⟩
 case measure=>simp[intOf];omega
 ):p:=h
theorem pw(h:p:=by
 go_quiet(fail);go_wp2_with fail;go_meet
 case rel=>exact⟨J,below_drewN (Below.refl _ _) _⟩
 ):p:=h
theorem pz(h:p:=by
 go_wp2_with(refine tO (.store 5 (.tmp 96) (.tmp 93)) J (af J (w.heap.size+1) (5+k) (.int .u8 (c:Int)) B2 I ab0 ?_));intro w4 B4 g4 _;rw[SL.out]at B4;have A4:=A2.grown g4 ap;have HB4:=tN hk g4 hk.size I;clear B2 A2 hk g4 SL ak5;go_wp2_with fail;go_roundw
 case rel=>exact⟨k+1,I,fU,B4,A4,HB4⟩
 case measure=>simp[intOf];omega
 ):p:=h
theorem pA(h:p:=by
 simp only[Op.eqFields,ne_eq,String.reduceEq,not_false_eq_true,if_true,Sem.run_bind,p0,p1 a ha,p1 b F,p2 a ha,p2 b F,e0,e1,e2,Result.andThen_ok,Sem.run_ite,Sem.run_pure];obtain⟨fa,ia,za⟩:=a;obtain⟨fb,ib,zb⟩:=b;simp only[uV.mk.injEq];by_cases U:fa=fb<;>by_cases X:ia=ib<;>by_cases h3:za=zb<;>simp[U,X,h3]
 ):p:=h
theorem pB(h:p:=by
 go_wp2_with fail;go_meet
 case rel=>exact⟨gz,ds,J,J,B8,hM8,hS8⟩
 ):p:=h
theorem pC(h:p:=by
 refine z8.same J J J J ?_ ?_ hlg hv (Nat.le_add_right _ _) J
 ·exact((Fv (x:={x with left:=x.left-1}) hd).trans hr.symm)
 ·have e:=(UD (x:={x with left:=x.left-1}) hd);have e2:Xc.rest {x with left:=x.left-1}=x.rest:=kP;rw[e,e2,hp];show(x.left-1).toNat+x.hS.toNat*x.rest<=_;omega
 ):p:=h
theorem pD(h:p:=by
 by_cases h4:f=4
 ·subst h4;go_wp2_with fail;go_ret;exact uf.mk cL HB
 ·
  have h4':(f==4)=false:=by simpa using h4
  by_cases h6:f=6
  ·subst h6;go_wp2_with fail;go_ret;exact uf.mk cL HB
  ·have h6':(f==6)=false:=js;rw[if_neg h4,if_neg h6]at HK;clear h4 h6;go_wp2_with fail;go_ret;exact uf.mk cL HB
 ):p:=h
theorem pE(h:p:=by
 go_wp2_with(refine tO (.load 119 (.tmp 3)) J ?_;go_must(refine tP J _ _ J w.heap.size 0 J B0 33 I _ underlying119 J uu cs (wg I) ?_));go_wp2_with fail;refine(CK.out _ HB0).mono ?_;rintro _ w2 ⟨rfl,b2⟩;have HB:=tL HB0 HB0.size b2;clear B0 HB0 b2 CK;go_wp2_with fail;go_ret2;exact uf.mk J HB
 ):p:=h
theorem pF(h:p:=by
 subst hty;unfold execOp;simp only[ho,resolve,invoke,builtin,Sem.run_bind,Sem.run_pure,Result.andThen_ok,List.map_toArray,List.map_cons,List.map_nil,hs,hy,hr]
 ):p:=h
theorem pG(h:p:=by
 go_wp2_with fail;refine afr.out.mono ?_;rintro _ w1 ⟨v,rfl,hT,hB,_⟩;by_cases hx:x=1
 ·
  subst hx;obtain rfl:y=5:=by rw[hE.out];rfl
  go_wp2_with fail;go_ret3;exact⟨v,J,hT,hB⟩
 ·have hx':(x==1)=false:=iJ;obtain rfl:y=x:=oh;clear hx hE;go_wp2_with fail;go_ret3;exact⟨v,J,hT,hB⟩
 ):p:=h
theorem pH(h:p:=by
 go_wp2_with(refine tO (.load 50 (.tmp 2)) J ?_;go_must(refine tP J _ _ J w.heap.size 0 J B0 14 I _ underlying50 J ux cs (wg I) ?_));go_wp2_with fail;refine(CK.out _ HB0).mono ?_;rintro _ w1 ⟨rfl,b1⟩;have HB1:=tL HB0 HB0.size b1;go_wp2_with fail;go_ret2;exact uf.mk J HB1
 ):p:=h
theorem pI(h:p:=by
 go_wp2_with fail;go_roundw
 case rel=>exact⟨k+1,I,fU,hb3,hB2⟩
 case measure=>simp[intOf];omega
 ):p:=h
theorem pJ(h:p:=by
 intro v' w' hO' f';have FIN:=Y (Cr.CY hA9 F9 O9 (Nat.le_refl _) hw0 hO' f');clear hA9 F9 O9 hO9 hO' f';go_wp2_with fail;go_ret;rw[HR2.out];exact FIN.out
 ):p:=h
theorem pK(h:p:=by
 intro v' w' hO' f';have FIN:=Y (y9.CY hA9 hL9 F9 hD9 O9 tK hO' f');clear hA9 hL9 F9 hD9 O9 hO9 hO' f';go_wp2_with fail;go_ret;rw[HR2.out];exact FIN.out
 ):p:=h
theorem pL(h:p:=by
 go_wp2_with fail;go_roundw
 case rel=>exact⟨k+1,I,fU,by rw[U1.out],by rw[U2.out];exact O2.out,H2,BX3⟩
 case measure=>simp[intOf];omega
 ):p:=h
theorem pM(h:p:=by
 go_wp2_with fail;go_roundw
 case rel=>exact⟨k+1,I,fU,by rw[U1.out],by rw[U2.out];exact O1.out,H1,BX2⟩
 case measure=>simp[intOf];omega
 ):p:=h
theorem pN(h:p:=by
 go_wp2_with fail;go_ret;rw[HR2.out];exact FIN.out
 ):p:=h
theorem pO(h:p:=by
 have e:(rest.length<2)=False:=az;have h':=JU g rest false 2 w h hl;rw[show zp rest false (hw 2)=rest.take 2 by simp[zp,hw,e],show yE rest false (hw 2)=rest.drop 2 by simp[yE,hw,e],show yu rest false (hw 2)=false by simp[yu,hw,e]]at h';exact h'
 ):p:=h
theorem pP(h:p:=by
 intro w8 B8 g8 _;replace B8:=DW B8 dK;have HB8:=tN HB5 g8 HB5.size I;have hM8:=hM5.uG g8 B45;clear g8 HB5 B45 hM5;go_wp2_with fail;refine uH J (w.heap.size+1+1) J B8 _ underlying50 J dJ J (.bool afW.2) J ?_;rw[HF.out];exact⟨ds,J,hM8,HB8⟩
 ):p:=h
theorem pQ(h:p:=by
 rcases adV.2 with⟨rfl,rfl⟩|⟨g,cap,cur,rfl,_,_,hc,_⟩
 ·exact⟨none,0,J,Nat.le_refl _⟩
 ·exact⟨_,_,J,hc⟩
 ):p:=h
theorem pR(h:p:=by exact⟨v,D',J,HX.out⟩):p:=h
theorem pS(h:p:=by
 intro w8 B8 g8 _;replace B8:=DW B8 dK;have HB8:=tN HB5 g8 HB5.size hgr;have hM8:=hM5.uG g8 B45;clear g8 HB5 B45 B75 hM5;go_wp2_with fail;refine uH J gr J B8 _ underlying50 J dJ J (.bool true) J ?_;rw[HF.out];exact⟨ds,J,hM8,HB8⟩
 ):p:=h
theorem pT(h:p:=by
 have b2:=tL kb kb.size b1;generalize(vg h2 false).1=o1 at*;generalize(vg h2 false).2=o2 at*;clear hM b1 MS;go_wp2_with fail;refine EN.out.mono ?_;rintro _ w2 ⟨rfl,b3⟩;have b4:=tL b2 b2.size b3;clear EN;go_wp2_with fail;go_ret2;exact uf.mk J b4
 ):p:=h
theorem pU(h:p:=by
 have e2:DG T ud r=T:=gR;rw[e1,e2];exact⟨J,hT.G tK hB,vp.zq hB tK⟩
 ):p:=h
theorem pV(h:p:=by
 go_wp2_with fail;go_ret2;exact uf.mk J HB
 ):p:=h
theorem pW(h:p:=by
 go_wp2_with fail;go_ret;exact uf.mk J hk
 ):p:=h
theorem pX(h:p:=by
 simp only[List.flatten_cons,List.flatten_nil,List.append_nil,List.length_singleton,Nat.one_mul];exact List.take_of_length_le I
 ):p:=h
theorem pY(h:p:=by
 unfold execOp;simp only[ho,Sem.run_bind,Sem.run_pure,Result.andThen_ok,List.map_toArray,List.map_cons,List.map_nil,hx,hr]
 ):p:=h
theorem pZ(h:p:=by
 go_wp2_with fail;go_meet
 case rel=>exact⟨by rw[HLW.out],J⟩
 ):p:=h
theorem qb(h:p:=by
 rintro e w1 ⟨rfl,rfl⟩;go_wp2_with fail;go_ret;exact yi.mk (yf RR.out.symm) J
 ):p:=h
theorem qd(h:p:=by
 obtain⟨R1,R2⟩:=Pc (x:=x) (Nat.le_trans tK b1.size) U (X.G b1 X.lt) (h3.G b1) (h4.G b1) k1 g1 hb3 hg3;have R3:=(vY.zq b1 tK).trans R2;clear hb3 hg3 hs3 B2 g1 k1 hr R2;go_wp2_with fail;go_end0;exact⟨J,R1,R3⟩
 ):p:=h
theorem qf(h:p:=by simp[zC,List.set_append,hT,hq,qC]):p:=h
theorem qg(h:p:=by
 go_enter func203,ntmps203;go_wp2_with(go_at_call 207;first|(refine(xk _ _ _ aV).mono ?_;rintro e w' ⟨rfl,rfl⟩)|(refine(Bv _ _ _ aV).mono ?_;rintro e w' ⟨rfl,rfl⟩));go_ret;exact uf.mk J aw
 ):p:=h
theorem qi(h:p:=by
 go_wp2_with fail;go_ret;exact uf.mk J hB
 ):p:=h
theorem qj(h:p:=by
 have e1:(e0 !=0)=true:=iD;have e2:=HQ.out.trans (if_pos he0);subst e2;have e3:=FK.out he0;subst e3;have hr0:=HE2.out.trans (if_pos he0);subst hr0;clear HE2 FK HJ2 HQ he0;go_wp2_with fail;go_ret;exact uf.mk J HBn
 ):p:=h
theorem qm(h:p:=by
 have e:yn m a n E N=Ez (fun l=>{RR.zero with tg:=l}) (wY (m.take (a+n)) a):=by unfold yn;rw[if_neg I,if_neg I,if_pos (.inr h)];cases wY (m.take (a+n)) a<;>rfl
 rw[e];exact this
 ):p:=h
theorem qn(h:p:=by
 have e:yn m a n E N=Ez (fun l=>{RR.zero with tg:=l}) (wY (m.take (a+n)) a):=by unfold yn;rw[if_neg I,if_neg I,if_pos (.inl h)];cases wY (m.take (a+n)) a<;>rfl
 rw[e];exact this
 ):p:=h
theorem qo(h:p:=by
 go_enter func180,ntmps180;go_wp2_with(refine tO (.load 28 (.tmp 32)) J ?_;go_must(refine wpList_load_mid J 28 (.tmp 32) J ba oa J _ _ hrg underlying28 J xh ?_));go_ret;exact uf.mk J (am2.out _)
 ):p:=h
theorem qp(h:p:=by
 clear H2;generalize r.se.length=n2 at*;go_enter func86,ntmps86;go_wp2_with fail;go_ret;exact⟨_,J,HX⟩
 ):p:=h
theorem qt(h:p:=by
 go_wp2_with fail;go_ret;exact FIN.out
 ):p:=h
theorem qv(h:p:=by
 go_wp2_with fail;go_quiet(fail);go_wp2_with fail;exact⟨J,J,xQ (World.grownBy.refl _ _) _⟩
 ):p:=h
theorem qw(h:p:=by
 go_enter func18,ntmps18;go_wp2_with fail;go_quiet(fail);go_wp2_with fail;go_ret;rw[HR2.out];exact⟨_,J,vI.nil _ _,⟨p,hJ.G (below_drewN HX _),HK.out⟩,uj (below_drewN HX _) _⟩
 ):p:=h
theorem qx(h:p:=by
 rintro _ w' ⟨rfl,hB⟩;have e1:yx T ud r=(if uo r.E r.N=1 then r.ad.ip.take 4 else r.ad.ip):=gO;have e2:DG T ud r=T:=gR;rw[e1,e2];exact⟨J,hT.G hB,zT.zq hB tK⟩
 ):p:=h
theorem qy(h:p:=by
 have e:yn m a n E N= .ok (Mr 6 ((m.take (a+n)).drop a)):=by unfold yn Mr;rw[if_neg U,if_pos h,if_pos hn,hd,hn,Nat.sub_self,List.replicate_zero,List.append_nil]
 rw[e];exact this
 ):p:=h
theorem qz(h:p:=by
 go_ret;exact uf.mk J aw
 ):p:=h
theorem qA(h:p:=by
 rw[hpk]at FS;clear hpk;go_wp2_with fail;go_roundw
 case rel=>exact⟨k+1,I,fU,by rw[FS.out];simpa using HO.out,by rw[FS.out];simpa using hle,hB⟩
 case measure=>simp[intOf];omega
 ):p:=h
theorem qB(h:p:=by
 have hp9:0<(zy l nj 5 q.N).length:=kp;obtain⟨g9,U,X,hr⟩:=O9.ud (fun _ _ h=>h.len) hp9;obtain⟨cx,hcx,vn,vt,vm,hcs,_⟩:=hr 0 hp9;exact⟨g9,U,_,hcx 3 _ bI⟩
 ):p:=h
theorem qD(h:p:=by
 go_wp2_with fail;go_ret;exact uf.mk J HB4
 ):p:=h
theorem qF(h:p:=by
 rw[hpk]at FS;clear hpk;go_wp2_with fail;go_roundw
 case rel=>exact⟨k+1,I,fU,by rw[FS.out];simpa using O2,by rw[FS.out];simpa using hle,H2⟩
 case measure=>simp[intOf];omega
 ):p:=h
theorem qG(h:p:=by
 have ahR:(lo++[r.sv[k]]).length<=3:=az;go_wp2_with fail;go_roundw
 case rel=>exact⟨k+1,_,_,I,fU,O7,ahR,FS1.out,B17,B27,B37,H7⟩
 case measure=>simp[intOf];omega
 ):p:=h
theorem qH(h:p:=by
 go_ret;exact uf.mk J hB5
 ):p:=h
theorem qI(h:p:=by
 have ahR:(lo++[r.so[k]]).length<=10:=az;go_wp2_with fail;go_roundw
 case rel=>exact⟨k+1,_,_,I,fU,O7,ahR,B17,B27,B37,KO7,H7⟩
 case measure=>simp[intOf];omega
 ):p:=h
theorem qJ(h:p:=by
 go_wp2_with fail;go_ret2;refine⟨_,?_,by rw[E1.out,FN.out.1,List.append_nil];exact t0,b0⟩;rw[E2.out,FN.out.2,List.length_drop,show s.length-(s.length-k)=k by omega];rfl
 ):p:=h
theorem qK(h:p:=by
 rw[rounds_succ];go_wp2_with fail;rw[rounds_succ];go_wp2_with fail;go_ret2;exact uf.mk J aw
 ):p:=h
theorem qL(h:p:=by
 have e:yn m a n E N= .ok {RR.zero with raw:=(m.take (a+n)).drop a}:=by unfold yn;rw[if_neg I,if_neg I,if_neg I,if_neg I,if_neg I]
 rw[e];exact this
 ):p:=h
theorem qM(h:p:=by
 simp only[part,isAgg,Sem.run_bind,run_underlying underlying22,Result.andThen_ok,Sem.run_pure,if_true,aaP,Sem.run_ite];rw[show 1+16=17 from J,x.aaQ hx]
 ):p:=h
theorem qN(h:p:=by obtain⟨_,_,At,ct,_,_,rfl,hr,_,hR,_⟩:=h;exact⟨At,ct,AQ hr,hR⟩):p:=h
theorem qO(h:p:=by
 go_wp2_with fail;rw[rounds_succ];go_wp2_with fail;go_ret2;refine uf.mk ?_ hC3;simp only[wW,Hp.out,Hq.out,Hz0.out,Hz1.out,Hz2.out,Hz3.out,List.append_assoc];rfl
 ):p:=h
theorem qP(h:p:=by
 have e2:qe=0:=HQ.out;subst e2;clear HQ;go_wp2_with fail;go_roundw
 case rel=>exact⟨k+1,I,fU,Y (HJ2.out trivial),hbn⟩
 case measure=>simp[intOf];omega
 ):p:=h
theorem qQ(h:p:=by
 go_wp2_with fail;go_ret;exact yi.mk (yf R.out.symm) J
 ):p:=h
theorem qR(h:p:=by
 subst hd;refine wpAnyH_all hr ap fun j hj=>?_
 rw[List.mem_singleton]at hj;subst hj;unfold wpOp;simp only[hi,hw,if_true];left;unfold Oper.wp;rw[he];exact⟨M,h⟩
 ):p:=h
theorem qS(h:p:=by
 have U:=Int.emod_nonneg (IntKind.u64.wrap turn) (show(S.length:Int)≠0 by omega);have X:=HT.out;simp only[if_true]at X;rw[X,Int.toNat_of_nonneg U]
 ):p:=h
theorem qT(h:p:=by injection h with h;omega):p:=h
theorem qU(h:p:=by
 go_wp2_with fail;go_ret;exact⟨_,J,HX⟩
 ):p:=h
theorem qV(h:p:=by
 go_wp2_with fail;go_ret;exact uf.mk J (Below.refl _ _)
 ):p:=h
theorem qW(h:p:=by exact⟨J,hT.G hB,zT.zq hB tK⟩):p:=h
theorem qX(h:p:=by
 go_wp2_with fail;go_ret;exact uf.mk J hB0
 ):p:=h
theorem qY(h:p:=by
 have e:yn m a n E N=Le (m.take (a+n)) a:=by unfold yn;rw[if_neg I,if_neg I,if_neg I,if_neg I,if_pos h];rfl
 rw[e];exact this
 ):p:=h
theorem rf(h:p:=by
 go_wp2_with fail;go_ret;exact uf.mk fy (H2.alloc I _)
 ):p:=h
theorem rh(h:p:=by simpa[List.append_assoc]using this):p:=h
theorem ri(h:p:=by
 have e1:((cs.drop 4).take 18)[17]?=cs[21]?:=by rw[List.getElem?_take_of_lt I,List.getElem?_drop]
 rw[<-e1,MA.out];exact r.ad.JX h16
 ):p:=h
theorem rj(h:p:=by
 clear M;go_wp2_with fail;refine uH J w.heap.size J By _ underlying50 J ux J (.int .i64 (y3)) J ?_;exact⟨HNE,J,HBy⟩
 ):p:=h
theorem rk(h:p:=by
 clear hu;go_wp2;first|go_end0|refine bodyPost_ret (results_none J _ _ _) J ?_
 first|exact⟨J,J,J⟩|exact⟨J,J⟩|rfl
 ):p:=h
theorem rm(h:p:=by
 clear M;go_wp2_with fail;refine uH J w.heap.size J By _ underlying50 J ux J (.int .i64 (2)) J ?_;exact⟨HNE,J,HBy⟩
 ):p:=h
theorem rn(h:p:=by rwa[List.drop_of_length_le hM,List.append_nil]at h):p:=h
theorem rp(h:p:=by
 refine wpList_plain hgd fun hb hK=>?_
 unfold Oper.wp execOp;simp only[ho,hx,Sem.run_bind,hr,Result.andThen_ok,Sem.run_pure];exact hK _ _ h
 ):p:=h
theorem rq(h:p:=by
 have e:yn m a n E N= .ok (Mr 4 ((m.take (a+n)).drop a)):=by unfold yn Mr;rw[if_pos h,if_pos hn,hd,hn]
 rw[e];exact this
 ):p:=h
theorem ry(h:p:=by
 go_wp2_with fail;refine(EV _).mono ?_;rintro _ w4 ⟨rfl,b4⟩;go_wp2_with fail;go_ret;exact uf.mk J (tL H3 H3.size b4)
 ):p:=h
theorem rA(h:p:=by
 refine wpQuiet_nil ?_;intro w4 hB4;have HB4:=tL HB3 HB3.size hB4;clear B3 HB3 hB4;go_wp2_with fail;go_ret2;exact uf.mk J HB4
 ):p:=h
theorem rB(h:p:=by
 go_wp2_with fail;go_roundw
 case rel=>exact⟨k+1,I,fU,by rw[U2.out];exact HO.out,hB⟩
 case measure=>simp[intOf];omega
 ):p:=h
theorem rC(h:p:=by
 clear M;go_wp2_with fail;go_meet
 case rel=>exact⟨τ',k10,B10⟩
 ):p:=h
theorem rD(h:p:=by
 go_wp2_with fail;go_ret;rw[HT.out];exact FIN.out
 ):p:=h
theorem rE(h:p:=by
 have e1:((cs.drop 4).take 18)[0]?=cs[4]?:=by rw[List.getElem?_take_of_lt I,List.getElem?_drop]
 rw[<-e1,MA.out];rfl
 ):p:=h
theorem rF(h:p:=by simp only[List.size_toArray,List.length_append,List.length_take,List.length_drop,Array.length_toList,vB];omega):p:=h
theorem rG(h:p:=by
 go_wp2_with fail;go_ret;exact⟨_,J,tL H1 H1.size M⟩
 ):p:=h
theorem rH(h:p:=by
 go_wp2_with fail;go_ret;refine⟨_,J,?_,hB⟩;have e:((l.take k).filter p).length=m:=I;rw[Fo e];exact HO.out
 ):p:=h
theorem rI(h:p:=by
 go_wp2_with fail;go_roundw
 case rel=>exact⟨k+1,I,fU,by rw[HES.out],trivial⟩
 case measure=>simp[intOf];omega
 ):p:=h
theorem rJ(h:p:=by
 rw[List.take_succ_eq_append_getElem O,GI,h];show(if(wH y (xo l[k])).2 then _ else _)=_;rw[hf];rfl
 ):p:=h
theorem rK(h:p:=by
 rw[if_neg bd];have:=ih (k:=k) bf (fun j hj hjk=>by have:=h (j+1) az I;simpa using this) aL;simpa using this
 ):p:=h
theorem rL(h:p:=by
 have:=World.size_alloc (w:=W.drew) (o:=.cells qZ.toArray 28);have X:W.drew.heap.size=W.heap.size:=rfl;omega
 ):p:=h
theorem rM(h:p:=by
 go_wp2_with fail;go_ret;exact uf.mk J HBr
 ):p:=h
theorem rN(h:p:=by
 intro r hr e;obtain⟨j,hj,U,_⟩:=V9 hr;have:=congrArg List.length (U.symm.trans e);simp at this;omega
 ):p:=h
theorem rO(h:p:=by
 simp only[xN,Bool.and_eq_true,decide_eq_true_eq]at h;rw[X];exact Int.emod_eq_of_lt h.1 (by have:=h.2;omega)
 ):p:=h
theorem rP(h:p:=by
 rw[Array.toArray_toList]at this;exact this
 ):p:=h
theorem rQ(h:p:=by
 refine(AC.out _).mono ?_;rintro _ w1 ⟨rfl,b1⟩;go_wp2_with fail;go_ret;exact uf.mk cL (tL HB HB.size b1)
 ):p:=h
theorem rR(h:p:=by show x.hS.toNat*(3*(x.tr.length-x.k-1))<=_;omega):p:=h
theorem rS(h:p:=by
 rw[if_neg (by simp[ht])]at hE;by_cases U:tY r.ml=0
 ·exact U
 ·rw[if_pos U]at hE;exact hE
 ):p:=h
theorem rT(h:p:=by
 go_wp2_with fail;go_meet
 case rel=>exact⟨J,J⟩
 ):p:=h
theorem rU(h:p:=by
 go_wp2_with fail;refine C.mono ?_;rintro _ w1 ⟨rfl,rfl⟩;go_wp2_with fail;go_ret2;exact yi.mk J J
 ):p:=h
theorem rV(h:p:=by exact⟨An,cn,At,ct,Am,cm,J,⟨J,hr.2⟩,hN.G hB,hT.G hB,hM.G hB,afB⟩):p:=h
theorem rW(h:p:=by
 subst this;unfold Z at F;rw[hh]at F;injection F with F;injection F with _ ht;exact hne ht.symm
 ):p:=h
theorem rX(h:p:=by
 intro hi;rcases Nn hi with⟨s',h,_⟩|⟨h,_⟩
 ·rw[e]at h;cases h
 ·rwa[e]at h
 ):p:=h
theorem rY(h:p:=by
 unfold yw OL;split
 ·
  next h0=>have:=(wK h0).2;simp[vK];omega
 ·simp
 ):p:=h
theorem rZ(h:p:=by
 go_wp2_with fail;go_meet
 case rel=>exact⟨g,gl,D,Aa,ca,J,J,hO5,HP,HFR,M⟩
 ):p:=h
theorem r7(h:p:=by
 rw[this,hd];simp only[vy,uV.cells,AB,List.append_assoc,List.cons_append];rfl
 ):p:=h
theorem r8(h:p:=by
 rcases agL.2 with⟨_,h0⟩|⟨g,cap,_,hv,_⟩
 ·omega
 ·exact⟨g,cap,hv⟩
 ):p:=h
theorem sd(h:p:=by
 simp[DA]at hbd;have:=hbd.1;have:0<n[k].length:=List.length_pos_iff.2 this;omega
 ):p:=h
theorem sf(h:p:=by
 rintro e w2 ⟨rfl,hg⟩;go_wp2_with fail;exact⟨J,J,KC hB1 hg hg1 tK⟩
 ):p:=h
theorem sg(h:p:=by
 unfold execOp;simp only[ho,hx,hy,Sem.run_bind,hst,Result.andThen_ok,Sem.run_pure]
 ):p:=h
theorem sj(h:p:=by
 unfold execOp;simp only[ho,hx,Sem.run_bind,hv w hC,Result.andThen_ok,Sem.run_pure]
 ):p:=h
theorem sk(h:p:=by
 rintro e w1 ⟨rfl,b1⟩;go_wp2_with fail;go_ret2;exact uf.mk J (tL aw az b1)
 ):p:=h
theorem sm(h:p:=by exact⟨An,cn,none,0,Am,cm,J,hr,hN.G hB,xj.nil _,hM.G hB,afB⟩):p:=h
theorem sq(h:p:=by
 unfold execOp;simp only[ho,hx,hy,Sem.run_bind,hr,Result.andThen_ok,Sem.run_pure]
 ):p:=h
theorem ss(h:p:=by
 refine⟨css++[cs],?_,(h.Wm hr).mono (fun _ _ x=>x.ue hs)⟩;simpa using ho
 ):p:=h
theorem sx(h:p:=by
 have:(zy (l.take k) n E N).length<=(l.take k).length:=mo;simp at this;omega
 ):p:=h
theorem sA(h:p:=by
 go_wp2_with fail;go_ret;exact⟨_,J,vI.nil _ _,H.out,World.grownBy.refl _ _⟩
 ):p:=h
theorem sB(h:p:=by
 split at h
 ·rename_i ht;injection h with h;subst h;exact Wq ht
 ·cases h
 ):p:=h
theorem sC(h:p:=by
 go_wp2_with fail;go_meet
 case rel=>exact⟨aeq,ajs,ajJ,HA,amD,am5,apR⟩
 ):p:=h
theorem sD(h:p:=by
 unfold execOp;simp only[ho,hx,Sem.run_bind,hv,Result.andThen_ok,Sem.run_pure]
 ):p:=h
theorem sE(h:p:=by
 unfold execOp;simp only[ho,hv,Sem.run_bind,hr,Result.andThen_ok,Sem.run_pure]
 ):p:=h
theorem sF(h:p:=by show 3*(x.tr.length-x.k-1)<=_;omega):p:=h
theorem sG(h:p:=by
 go_wp2_with fail;go_ret2;exact uf.mk J HBr
 ):p:=h
theorem sH(h:p:=by
 go_wp2_with fail;go_ret;exact uf.mk J HB1
 ):p:=h
theorem sI(h:p:=by
 clear U X SET atm;go_enter func198,ntmps198;go_wp2_with fail;go_end0;exact S.out
 ):p:=h
theorem sJ(h:p:=by
 subst hd;unfold wpOp;simp only[hi,hw,if_true];left;unfold Oper.wp;rw[he];exact h
 ):p:=h
theorem sK(h:p:=by
 rw[if_neg bd];exact ih (fun j hj=>by have:=h (j+1) az;simpa using this)
 ):p:=h
theorem sL(h:p:=by
 subst e1;unfold OG;go_wp2_with fail;go_ret3;exact⟨_,J,hT,hB,HOB.out⟩
 ):p:=h
theorem sM(h:p:=by
 rw[hro]at d6;go_wp2_with fail;go_meet
 case rel=>exact⟨by rw[hro],J⟩
 ):p:=h
theorem sN(h:p:=by
 go_wp2_with fail;go_meet
 case rel=>exact⟨gz,es2,J,J,Ba,hMa,M⟩
 ):p:=h
theorem sO(h:p:=by exact⟨v,D',J,HX2.out⟩):p:=h
theorem sP(h:p:=by
 intro v hv;rcases List.mem_cons.1 hv with rfl|hv
 ·rfl
 ·exact hM.one v hv
 ):p:=h
theorem sQ(h:p:=by
 go_wp2_with fail;go_meet
 case rel=>exact⟨_,lo,ho,B1,B2,B3,KO,H⟩
 ):p:=h
theorem sR(h:p:=by exact⟨v',w',hr,X,h3⟩):p:=h
theorem sS(h:p:=by exact uf.mk J (((Below.refl _ _).alloc (Nat.le_refl _) _).alloc ap _)):p:=h
theorem sT(h:p:=by
 by_cases U:tY r.tg=0
 ·exact U
 ·rw[if_pos U]at hE;exact hE
 ):p:=h
theorem sU(h:p:=by
 rw[hh]at b1';injection b1' with b1';injection b1' with _ b1';exact n1 b1'
 ):p:=h
theorem sV(h:p:=by
 clear he hr;go_wp2_with fail;go_ret;exact uf.mk (yf HR.out.symm) hB
 ):p:=h
theorem sX(h:p:=by rw[if_pos U]at h;exact absurd h U):p:=h
theorem sY(h:p:=by
 have:=h (k+i) (by simp at hi;omega);rw[Nat.add_assoc,this];simp
 ):p:=h
theorem sZ(h:p:=by
 subst b2 b3 b4 b5 b6 b7 b8;unfold Vt;simp only[RR.zero];rw[<-e]
 ):p:=h
theorem s9(h:p:=by
 go_wp2_with fail;go_meet
 case rel=>exact⟨by rw[hr1.out],J⟩
 ):p:=h
theorem td(h:p:=by
 go_wp2_with fail;go_ret2;exact HX9.out
 ):p:=h
theorem te(h:p:=by exact decide_eq_false (acq Hh hlb (of_decide_eq_false hs.out))):p:=h
theorem tf(h:p:=by
 split
 ·intro h;cases h
 ·exact h
 ):p:=h
theorem th(h:p:=by
 go_wp2_with fail;go_ret;exact⟨false,J,fun h=>dY,hW⟩
 ):p:=h
theorem ti(h:p:=by
 go_wp2_with fail;go_ret;exact yi.mk (zD HN.out.symm) J
 ):p:=h
theorem tj(h:p:=by
 go_wp2_with fail;go_ret;exact yi.mk (by rw[HK2.out];rfl) J
 ):p:=h
theorem tm(h:p:=by
 go_wp2;all_goals go_ret
 all_goals exact yi.mk (yf ar) J
 ):p:=h
theorem tn(h:p:=by
 have e:yn m a n E N= .error 5:=mc;rw[e];exact this
 ):p:=h
theorem tp(h:p:=by
 have e:yn m a n E N= .error 5:=kS;rw[e];exact this
 ):p:=h
theorem tq(h:p:=by
 have e:yn m a n E N= .error 5:=jz;rw[e];exact this
 ):p:=h
theorem tu(h:p:=by
 rw[h]at this;exact this
 ):p:=h
theorem tv(h:p:=by
 go_wp2_with fail;go_ret;exact⟨_,J,fun h=>dY,H1⟩
 ):p:=h
theorem tw(h:p:=by
 go_wp2_with fail;go_ret2;exact Nk HO.out aW hT2 hB3
 ):p:=h
theorem tx(h:p:=by
 rw[HF3.out];exact⟨_,_,_,_,_,_,_,_,J,H7⟩
 ):p:=h
theorem tz(h:p:=by
 rw[if_pos hc,if_pos hc,hc];exact⟨J,h5,h6⟩
 ):p:=h
theorem tC(h:p:=by
 rw[HQ.out];exact O5.uG (uL _ _ _ _) E3 ax
 ):p:=h
theorem tD(h:p:=by
 obtain⟨_,o4,_⟩:=O3;exact ug.own o4 ax g5
 ):p:=h
theorem tE(h:p:=by
 simp only[Addr.mk.injEq,true_and,and_true];omega
 ):p:=h
theorem tF(h:p:=by obtain⟨b,_,rfl⟩:=List.mem_map.1 hv;rfl):p:=h
theorem tG(h:p:=by
 go_wp2_with fail;go_ret;exact⟨_,J,OO,M⟩
 ):p:=h
theorem tH(h:p:=by exact FIN.out _ (below_drewN (Below.refl _ _) _)):p:=h
theorem tI(h:p:=by
 go_wp2_with fail;go_ret;exact⟨J,R1,R3⟩
 ):p:=h
theorem tJ(h:p:=by rw[<-Bool.not_eq_true,yK];omega):p:=h
end
theorem lsA{α:Type _}(l:List α)(i:Nat)(a:α):l.toArray.setIfInBounds i a=(l.set i a).toArray:=List.setIfInBounds_toArray ..
theorem lsB{α:Type _}(x:α)(l:List α)(a:α):(x::l).set 0 a=a::l:=List.set_cons_zero ..
theorem lsC{α:Type _}(x:α)(l:List α)(n:Nat)(a:α):(x::l).set (n+1) a=x::l.set n a:=List.set_cons_succ ..
theorem wg{L:List Value}{n:Nat}(h:L.length<=n):(L.drop 0).take n=L:=by rw[List.drop_zero,List.take_of_length_le h]
theorem Y{p:Prop}(h:p):RowKit.Hid p:=Lib.hid h
open _root_.Go.Proofs.Tryz
open Go.RowKit
theorem z:(∀(l:List Value) ds (i:Nat) v,Act.put ⟨l.toArray,ds⟩ (some i) v=⟨(l.set i v).toArray,ds⟩)/\(∀a v,Act.put a none v=a)/\(∀(x:Value) l a,(x::l).set 0 a=a::l)/\∀(x:Value) l (n:Nat) a,(x::l).set (n+1) a=x::l.set n a:=⟨fun l ds i v=>by simp[Act.put],fun _ _=>rfl,fun _ _ _=>rfl,fun _ _ _ _=>rfl⟩
abbrev al(w w2:World):Prop:=Below w.heap.size w w2
theorem ao{α:Sort _}(a:α):∃b,Hid (a=b):=⟨a,Lib.hid J⟩
def yi(v:Value)(w:World)(e:Ending)(w':World):Prop:=e= .returned v/\w=w'
def uf(v:Value)(w:World)(e:Ending)(w':World):Prop:=e= .returned v/\al w w'
theorem yi.mk{e:Ending}(h:e= .returned v)(hw:w=w'):yi v w e w':=⟨h,hw⟩
theorem uf.mk{e:Ending}(h:e= .returned v)(hw:al w w'):uf v w e w':=⟨h,hw⟩
theorem yi.toB{e:Ending}(h:yi v w e w'):uf v w e w':=⟨h.1,h.2▸Below.refl _ _⟩
theorem yi.quiet{f:FuncId}{args:Array Value}{n:Nat}(h:Calls P f args (w.drewN n) (yi v (w.drewN n))):Calls P f args (w.drewN n) fun e w''=>e= .returned v/\∃m,w''=w.drewN m:=
 h.mono fun _ _ ⟨he,hm⟩=>⟨he,n,hm.symm⟩
theorem Iq{A W w1:World}(h:al A W)(b:al W w1):al A w1:=h.trans (b.mono h.size)
theorem yf{k:IntKind}{a b:Int}(h:a=b):Ending.returned (.int k a)= .returned (.int k b):=by rw[h]
theorem zD{a b:Bool}(h:a=b):Ending.returned (.bool a)= .returned (.bool b):=by rw[h]
theorem below_drewN(h:Below B a w)(n:Nat):Below B a (w.drewN n):=⟨h.os,h.tape,h.output,h.size,h.block⟩
theorem tL(h:Below B a w)(hB:B<=w.heap.size)(k:al w w'):Below B a w':=h.trans (k.mono hB)
theorem vV(h:Below B a w)(hB:B<=a.heap.size):B<=w.heap.size:=Nat.le_trans hB h.size
theorem Gs(w:World){a:Act}{Q:Exit->Act->World->Prop}(hgd:o.guard=none)(s x:Operand)(t:TypeId)
  (ho:o.op= .call {callee:=.builtin .append,args:= #[s,x],argTypes:= #[t,t]})
  (e:TypeId) (acZ:Value) (size bytes:Nat) (ht:P.underlying t=some (.slice e)) (hi:(P.info? e).map (fun i=>(i.zero,i.size,i.bytes))=some (some acZ,size,bytes)) (hzs:acZ.cells.size=size) (hsz:0<size)
  (v:Value) (n:Nat) (xs:List Value) (hs:a.eval s=v) (adV:w.ownsRow 0 e size v n xs)
  (ad:Addr) (m c:Nat) (news:List Value) (hx:a.eval x= .slice (some ad) m c) (hl:news.length=m*size) (akX:∀j u,news[j]?=some u->w.cell? (ad.add j)=some u) (U:∀u∈news,u.oneCell'=true)
  (hm:0<m) (h63:n+m<=maxLen) (afT:(n+m)*bytes<=140737488355328)
  (h:∀g cap w',w'.ownsRow 0 e size (.slice (some ⟨g,0,none⟩) (n+m) cap) (n+m) (xs++news)->w.grownBy w' v.ownBlock->(v.ownBlock=some g\/g=w.heap.size)->wpList P ops Q rest (a.put o.dst (.slice (some ⟨g,0,none⟩) (n+m) cap)) w'):
  wpList P ops Q (o::rest) a w:=by
 obtain⟨i,hi,hz,adT,hby⟩:=info_parts hi;refine wpList_append_own_at w hgd s x t ho 0 e i acZ size bytes ht hi hz adT hby hzs hsz v n xs hs adV ad m c news hx hl akX U h63 afT (Nat.zero_le _) ?_;intro v' w' agL hg _ hat;obtain⟨g,cap,rfl⟩:∃g cap,v'= .slice (some ⟨g,0,none⟩) (n+m) cap:=by exact r8
 refine h g cap w' agL hg ?_;rcases hat with h|h
 ·exact .inl h.symm
 ·exact .inr (by simpa[Value.ownBlock]using h)
theorem yH{row:Option Nat}(h:w.grownBy w' row)(p:Addr)(hp:p.block<w.heap.size)(hr:some p.block≠row):w'.cell? p=w.cell? p:=World.cell?_of_block (h.block _ hp hr)
theorem tU{b c:World}{row an6:Option Nat}(h:a.grownBy b row)(k:b.grownBy c an6)(hr:an6=row\/∀g,an6=some g->a.heap.size<=g):a.grownBy c row:=
 ⟨k.os.trans h.os,k.tape.trans h.tape,k.output.trans h.output,Nat.le_trans h.size k.size,fun i hi hne=>(k.block i (Nat.lt_of_lt_of_le hi h.size) (by
  rcases hr with rfl|hr
  ·exact hne
  ·
   intro e;have:=hr i e.symm;omega)).trans (h.block i hi hne)⟩
def Z(w:World)(g:Nat)(t:TypeId)(cs:List Value):Prop:=w.heap[g]?=some (.cells cs.toArray t (0,0))
section
variable {w w':World} {g:Nat} {t:TypeId} {cs:List Value}
theorem Z.lt(h:Z w g t cs):g<w.heap.size:=by
 rcases Nat.lt_or_ge g w.heap.size with Hh|hge
 ·exact Hh
 ·unfold Z at h;rw[Array.getElem?_eq_none hge]at h;cases h
theorem Z.cell(h:Z w g t cs)(i:Nat):w.cell? ⟨g,i,none⟩=cs[i]?:=by
 rw[cell_of_row w g i cs.toArray t (0,0) h];simp
theorem Z.K(h:Z w g t cs)(i:Nat)(hi:cs[i]?=some u):w.cell? ⟨g,i,none⟩=some u:=(h.cell i).trans hi
theorem Z.frozen(h:Z w g t cs)(i:Nat):w.frozen? ⟨g,i,none⟩=false:=by
 unfold Z at h;simp[World.frozen?,h]
theorem Z.new(w:World)(t:TypeId)(cs:List Value):Z (w.alloc (.cells cs.toArray t)) w.heap.size t cs:=heap_alloc_new w _
theorem Z.vP(w:World)(t:TypeId)(cs:List Value)(k:Nat)(O:k=w.heap.size):Z (w.alloc (.cells cs.toArray t)) k t cs:=O▸heap_alloc_new w _
theorem Z.drew(h:Z w g t cs):Z w.drew g t cs:=h
theorem Z.drewN(h:Z w g t cs)(n:Nat):Z (w.drewN n) g t cs:=h
theorem Z.alloc(h:Z w g t cs)(o:Obj):Z (w.alloc o) g t cs:=(Below.heap_alloc w o g h.lt).trans h
theorem Z.set(h:Z w g t cs)(i:Nat)(u:Value):Z (w.setCell ⟨g,i,none⟩ u) g t (cs.set i u):=by
 unfold Z at h⊢;simp[World.setCell,Array.getElem?_modify,h]
theorem Z.yG(h:Z w g t cs){p:Addr}(hp:g≠p.block)(u:Value):Z (w.setCell p u) g t cs:=(Below.heap_setCell w p u g hp).trans h
theorem Z.G(h:Z w g t cs)(F:Below B w w')(hg:g<B):Z w' g t cs:=(F.block g hg).trans h
theorem Z.grown{row:Option Nat}(h:Z w g t cs)(F:w.grownBy w' row)(hg:some g≠row):Z w' g t cs:=(F.block g h.lt hg).trans h
end
theorem uq(h:a.grownBy w (some g))(i:Nat)(u:Value):a.grownBy (w.setCell ⟨g,i,none⟩ u) (some g):=
 ⟨h.os,h.tape,h.output,by simpa[World.setCell]using h.size,fun i' hi hne=>(Below.heap_setCell w _ u i' (by simp only;intro e;exact hne (by rw[e]))).trans (h.block i' hi hne)⟩
theorem zk{row:Option Nat}(h:a.grownBy w row)(o:Obj):a.grownBy (w.alloc o) row:=
 ⟨h.os,h.tape,h.output,Nat.le_trans h.size ap,fun i hi hne=>(Below.heap_alloc w o i (Nat.lt_of_lt_of_le hi h.size)).trans (h.block i hi hne)⟩
theorem xV{row:Option Nat}(h:a.grownBy w row):a.grownBy w.drew row:=⟨h.os,h.tape,h.output,h.size,h.block⟩
theorem xQ{row:Option Nat}(h:a.grownBy w row)(n:Nat):a.grownBy (w.drewN n) row:=⟨h.os,h.tape,h.output,h.size,h.block⟩
theorem vk{row:Option Nat}(h:a.grownBy w row)(F:al w w'):a.grownBy w' row:=
 ⟨F.os.trans h.os,F.tape.trans h.tape,F.output.trans h.output,Nat.le_trans h.size F.size,fun i hi hne=>(F.block i (Nat.lt_of_lt_of_le hi h.size)).trans (h.block i hi hne)⟩
theorem tN(h:Below B a w)(hg:w.grownBy w' (some g))(hB:B<=w.heap.size)(hr:B<=g):Below B a w':=
 h.grown hg hB (fun k O=>by injection O with O;omega)
theorem uj(h:al a w)(row:Option Nat):a.grownBy w row:=⟨h.os,h.tape,h.output,h.size,fun i hi _=>h.block i hi⟩
theorem Bf(w:World)(u:Value)(t:TypeId)(k:Nat)(O:k=w.heap.size):∀j x,[u][j]?=some x->(w.alloc (.cells #[u] t)).cell? ((⟨k,0,none⟩:Addr).add j)=some x:=by
 subst O;intro j x hx;rcases j with _|j
 ·simp at hx;subst hx;simp[Addr.add,go_sem]
 ·simp at hx
theorem zm(h:u.oneCell'=true):∀x∈[u],x.oneCell'=true:=by simpa using h
def bs(l:List UInt8):ByteArray:=⟨l.toArray⟩
theorem adY(s:ByteArray):s=bs s.data.toList:=by cases s;simp[bs]
@[go_sem,simp] theorem xf(l:List UInt8):(bs l).size=l.length:=by simp[bs,ByteArray.size]
theorem aaJ(l:List UInt8):(bs l).data.toList=l:=by simp[bs]
@[go_sem] theorem Ki(a b:List UInt8):bs a++bs b=bs (a++b):=by unfold bs;rw[ByteArray.mk_append_mk]
@[go_sem] theorem acD(a b:List UInt8):bs a++⟨b.toArray⟩=bs (a++b):=Ki a b
@[go_sem] theorem acE(a b:List UInt8):(⟨a.toArray⟩:ByteArray)++bs b=bs (a++b):=Ki a b
@[go_sem] theorem acF(l:List UInt8)(i j:Nat):(bs l).extract i j=bs ((l.take j).drop i):=by
 unfold bs;rw[ByteArray.extract_mk,List.drop_take]
@[go_sem] theorem acG(l:List UInt8)(i:Nat)(h:i<(bs l).size):(bs l)[i]=l[i]'aq:=rfl
theorem toList_mk(l:List UInt8):ByteArray.toList ⟨l.toArray⟩=l:=by rw[ByteArray.toList_eq]
@[go_sem] theorem MW(l:List UInt8):(bs l).toList=l:=toList_mk l
def Byt(w:World)(g off:Nat)(l:List UInt8):Prop:=∀j (hj:j<l.length),w.cell? ⟨g,off+j,none⟩=some (.int .u8 (l[j].toNat:Int))
theorem Byt.ud{off:Nat}{l:List UInt8}(h:Byt w g off l)(j:Nat)(hj:j<l.length):w.cell? ⟨g,off+j,none⟩=some (.int .u8 (l[j].toNat:Int)):=h j hj
theorem Kj(w:World){a:Act}{Q:Exit->Act->World->Prop}(hgd:o.guard=none)(x:Operand)(src dst e:TypeId)
  (ho:o.op= .convert src dst x) (hs:P.underlying src=some .string) (hd:P.underlying dst=some (.slice e)) (he:P.underlying e=some (.int .u8)) (l:List UInt8) (hx:a.eval x= .string (bs l))
  (h:∀cap w',l.length<=cap->Byt w' w.heap.size 0 l->al w w'->w'.heap.size=w.heap.size+1->wpList P ops Q rest (a.put o.dst (.slice (some ⟨w.heap.size,0,none⟩) l.length cap)) w'):
  wpList P ops Q (o::rest) a w:=by
 refine wpList_plain hgd fun hb hK=>?_
 have hr:=run_bytes_of_string (P:=P) w src dst e (bs l) hs hd he;rw[xf]at hr;generalize agw:grownCap w l.length 0 e=cap at hr;have hle:l.length<=cap:=by rw[<-agw];unfold grownCap;simp[Question.cut]
 unfold Oper.wp;simp[execOp,ho,hx,hr,Result.andThen];refine hK _ _ (h cap _ hle ?_ ?_ ?_)
 ·intro j hj;have e1:=World.cell?_alloc_mark w.drew (bytesRow (bs l) cap) e ((bytesRow (bs l) cap).size,(bytesRow (bs l) cap).size+1) (0+j);rw[show w.drew.heap.size=w.heap.size from J]at e1;rw[e1,Nat.zero_add,bytesRow_at (bs l) cap j (by simpa[bs]using hj)];simp[bs]
 ·exact((Below.refl _ _).drew).alloc (Nat.le_refl _) _
 ·simp
set_option maxRecDepth 100000
def hw(width:Int):Nat:=if width<0 then 0 else if 4<width then 4 else width.toNat
theorem XY(width:Int):hw width<=4:=by unfold hw;split<;>(try split)<;>omega
def tT:Nat->Int->List UInt8
 |0,_=>[]
 |k+1,n=>tT k (n/256)++[UInt8.ofNat (n%256).toNat]
theorem tR(k:Nat):∀n:Int,(tT k n).length=k:=by
 induction k with
 |zero=>intro n;rfl
 |succ k ih=>intro n;simp[tT,ih]
def uN(l:List UInt8):Nat:=l.foldl (fun n c=>256*n+c.toNat) 0
theorem MX(l:List UInt8)(c:UInt8):uN (l++[c])=256*uN l+c.toNat:=by simp[uN]
theorem aaK(l:List UInt8):uN l<256^l.length:=by
 have h:∀(l:List UInt8) (n k:Nat),n<256^k->l.foldl (fun n c=>256*n+c.toNat) n<256^(k+l.length):=by
  intro l;induction l with
  |nil=>intro n k h;simpa using h
  |cons c l ih=>intro n k h;have hc:=c.toNat_lt;have U:=ih (256*n+c.toNat) (k+1) (by rw[Nat.pow_succ];omega);rw[List.foldl_cons,List.length_cons,show k+(l.length+1)=k+1+l.length by omega];exact U
 simpa[uN]using h l 0 0 ap
theorem CZ(n:Int)(w:World):Calls prog 172 #[.int .i64 n] w (yi (.int .i64 (hw n)) w):=by
 go_enter func172,ntmps172;exact tm
theorem vT(n:Int)(w:World):Calls prog 126 #[.int .i64 n] w (yi (.int .i64 (hw n)) w):=by
 go_enter func126,ntmps126;exact tm
theorem C7(w:World)(t:TypeId)(k:IntKind)(xs:List Int):∀i,i<xs.length->(w.alloc (.cells (xs.map (Value.int k)).toArray t)).cell? ⟨w.heap.size,0+i,none⟩=some (.int k (xs.getD i 0)):=by
 intro i hi;rw[(Z.new w t (xs.map (Value.int k))).cell];simp[List.getD,List.getElem?_eq_getElem hi]
theorem adZ(width n:Int)(w:World)(h:hw width=0):Calls prog 117 #[.int .i64 width,.int .i64 n] w (uf (.string (bs (tT 0 n))) w):=by
 have hmk:∀w:World,(Instr.makeSlice 145 (.int .i64 0) (.int .i64 0)).run prog w= .ok (.slice (some ⟨w.heap.size,0,none⟩) 0 0) (w.alloc (.cells #[] 5)):=fun _=>by kernel_rfl
 have hcv:(convert 145 9 (.slice (some ⟨w.heap.size,0,none⟩) 0 0)).run prog (w.alloc (.cells #[] 5))= .ok (.string (bs (tT 0 n))) (w.alloc (.cells #[] 5)):=
  run_convert_bytes_arg _ 145 5 underlying145 underlying5 _ 0 0 0 [] J (C7 w _ _ []) 9 underlying9
 have H:=Lib.hid h;clear h;go_enter func117,ntmps117;go_wp2_with fail;refine(CZ _ _).mono ?_;rintro e w' ⟨rfl,rfl⟩;rw[H.out,show((0:Nat):Int)=0 from J];go_wp2_with fail;refine wp_loop_rounds 1 ?_;rw[rounds_succ];exact pt
theorem ad0(width n:Int)(w:World)(h:hw width=1):Calls prog 117 #[.int .i64 width,.int .i64 n] w (uf (.string (bs (tT 1 n))) w):=by
 have hmk:∀w:World,(Instr.makeSlice 145 (.int .i64 1) (.int .i64 1)).run prog w= .ok (.slice (some ⟨w.heap.size,0,none⟩) 1 1) (w.alloc (.cells #[.int .u8 0] 5)):=fun _=>by kernel_rfl
 have hcv:(convert 145 9 (.slice (some ⟨w.heap.size,0,none⟩) 1 1)).run prog (w.alloc (.cells #[.int .u8 (n%256)] 5))= .ok (.string (bs (tT 1 n))) (w.alloc (.cells #[.int .u8 (n%256)] 5)):=
  run_convert_bytes_arg _ 145 5 underlying145 underlying5 _ 0 1 1 [n%256] J (C7 w _ _ [n%256]) 9 underlying9
 have H:=Lib.hid h;clear h;go_enter func117,ntmps117;go_wp2_with fail;refine(CZ _ _).mono ?_;rintro e w' ⟨rfl,rfl⟩;rw[H.out,show((1:Nat):Int)=1 from J];go_wp2_with fail;refine wp_loop_rounds 2 ?_;rw[rounds_succ];go_wp2_with fail;rw[rounds_succ];exact pt
theorem ad1(width n:Int)(w:World)(h:hw width=2):Calls prog 117 #[.int .i64 width,.int .i64 n] w (uf (.string (bs (tT 2 n))) w):=by
 have hmk:∀w:World,(Instr.makeSlice 145 (.int .i64 2) (.int .i64 2)).run prog w= .ok (.slice (some ⟨w.heap.size,0,none⟩) 2 2) (w.alloc (.cells #[.int .u8 0,.int .u8 0] 5)):=fun _=>by kernel_rfl
 have hcv:(convert 145 9 (.slice (some ⟨w.heap.size,0,none⟩) 2 2)).run prog (w.alloc (.cells #[.int .u8 (n/256%256),.int .u8 (n%256)] 5))= .ok (.string (bs (tT 2 n))) (w.alloc (.cells #[.int .u8 (n/256%256),.int .u8 (n%256)] 5)):=
  run_convert_bytes_arg _ 145 5 underlying145 underlying5 _ 0 2 2 [n/256%256,n%256] J (C7 w _ _ [n/256%256,n%256]) 9 underlying9
 have H:=Lib.hid h;clear h;go_enter func117,ntmps117;go_wp2_with fail;refine(CZ _ _).mono ?_;rintro e w' ⟨rfl,rfl⟩;rw[H.out,show((2:Nat):Int)=2 from J];go_wp2_with fail;refine wp_loop_rounds 3 ?_;rw[rounds_succ];go_wp2_with fail;rw[rounds_succ];go_wp2_with fail;rw[rounds_succ];exact pt
theorem ad2(width n:Int)(w:World)(h:hw width=3):Calls prog 117 #[.int .i64 width,.int .i64 n] w (uf (.string (bs (tT 3 n))) w):=by
 have hmk:∀w:World,(Instr.makeSlice 145 (.int .i64 3) (.int .i64 3)).run prog w= .ok (.slice (some ⟨w.heap.size,0,none⟩) 3 3) (w.alloc (.cells #[.int .u8 0,.int .u8 0,.int .u8 0] 5)):=fun _=>by kernel_rfl
 have hcv:(convert 145 9 (.slice (some ⟨w.heap.size,0,none⟩) 3 3)).run prog (w.alloc (.cells #[.int .u8 (n/256/256%256),.int .u8 (n/256%256),.int .u8 (n%256)] 5))= .ok (.string (bs (tT 3 n))) (w.alloc (.cells #[.int .u8 (n/256/256%256),.int .u8 (n/256%256),.int .u8 (n%256)] 5)):=
  run_convert_bytes_arg _ 145 5 underlying145 underlying5 _ 0 3 3 [n/256/256%256,n/256%256,n%256] J (C7 w _ _ [n/256/256%256,n/256%256,n%256]) 9 underlying9
 have H:=Lib.hid h;clear h;go_enter func117,ntmps117;go_wp2_with fail;refine(CZ _ _).mono ?_;rintro e w' ⟨rfl,rfl⟩;rw[H.out,show((3:Nat):Int)=3 from J];go_wp2_with fail;refine wp_loop_rounds 4 ?_;rw[rounds_succ];go_wp2_with fail;rw[rounds_succ];go_wp2_with fail;rw[rounds_succ];go_wp2_with fail;rw[rounds_succ];exact pt
theorem ad3(width n:Int)(w:World)(h:hw width=4):Calls prog 117 #[.int .i64 width,.int .i64 n] w (uf (.string (bs (tT 4 n))) w):=by
 have hmk:∀w:World,(Instr.makeSlice 145 (.int .i64 4) (.int .i64 4)).run prog w= .ok (.slice (some ⟨w.heap.size,0,none⟩) 4 4) (w.alloc (.cells #[.int .u8 0,.int .u8 0,.int .u8 0,.int .u8 0] 5)):=fun _=>by kernel_rfl
 have hcv:(convert 145 9 (.slice (some ⟨w.heap.size,0,none⟩) 4 4)).run prog (w.alloc (.cells #[.int .u8 (n/256/256/256%256),.int .u8 (n/256/256%256),.int .u8 (n/256%256),.int .u8 (n%256)] 5))= .ok (.string (bs (tT 4 n))) (w.alloc (.cells #[.int .u8 (n/256/256/256%256),.int .u8 (n/256/256%256),.int .u8 (n/256%256),.int .u8 (n%256)] 5)):=
  run_convert_bytes_arg _ 145 5 underlying145 underlying5 _ 0 4 4 [n/256/256/256%256,n/256/256%256,n/256%256,n%256] J (C7 w _ _ [n/256/256/256%256,n/256/256%256,n/256%256,n%256]) 9 underlying9
 have H:=Lib.hid h;clear h;go_enter func117,ntmps117;go_wp2_with fail;refine(CZ _ _).mono ?_;rintro e w' ⟨rfl,rfl⟩;rw[H.out,show((4:Nat):Int)=4 from J];go_wp2_with fail;refine wp_loop_rounds 5 ?_;rw[rounds_succ];go_wp2_with fail;rw[rounds_succ];go_wp2_with fail;rw[rounds_succ];go_wp2_with fail;rw[rounds_succ];go_wp2_with fail;rw[rounds_succ];exact pt
theorem wi(width n:Int)(w:World):Calls prog 117 #[.int .i64 width,.int .i64 n] w (uf (.string (bs (tT (hw width) n))) w):=by
 have h:hw width=0\/hw width=1\/hw width=2\/hw width=3\/hw width=4:=nP;rcases h with h|h|h|h|h
 ·rw[h];exact adZ width n w h
 ·rw[h];exact ad0 width n w h
 ·rw[h];exact ad1 width n w h
 ·rw[h];exact ad2 width n w h
 ·rw[h];exact ad3 width n w h
theorem GW(W:World)(g:Nat)(x:Int)(hg:g=W.heap.size):(convert 145 9 (.slice (some ⟨g,0,none⟩) 1 1)).run prog (W.alloc (.cells #[.int .u8 x] 5))= .ok (.string (bs [UInt8.ofNat x.toNat])) (W.alloc (.cells #[.int .u8 x] 5)):=by
 subst hg;exact run_convert_bytes_arg _ 145 5 underlying145 underlying5 _ 0 1 1 [x] J (C7 W _ _ [x]) 9 underlying9
theorem Ek(m n:Int)(h:m=n%18446744073709551616):tT 0 m=tT 0 n/\tT 1 m=tT 1 n/\tT 2 m=tT 2 n/\tT 3 m=tT 3 n/\tT 4 m=tT 4 n:=by
 have e0:m%256=n%256:=I;have e1:m/256%256=n/256%256:=I;have e2:m/256/256%256=n/256/256%256:=I;have e3:m/256/256/256%256=n/256/256/256%256:=I;simp[tT,e0,e1,e2,e3]
theorem XZ(width n:Int)(w:World)(h:hw width=0):Calls prog 84 #[.int .i64 width,.int .i64 n] w (uf (.string (bs (tT 0 n))) w):=by
 have H:=Lib.hid h;clear h;go_enter func84,ntmps84;go_wp2_with fail;obtain⟨m,hm⟩:∃m,IntKind.u64.wrap n=m:=gp;rw[hm];rw[IntKind.wrap_u64]at hm;have h2:=Y hm;clear hm;refine wp_loop_rounds 1 ?_;rw[rounds_succ];go_wp2_with fail;refine(vT _ _).mono ?_;rintro e w' ⟨rfl,rfl⟩;rw[H.out,show((0:Nat):Int)=0 from J];go_wp2_with fail;go_ret;rw[<-(Ek m n h2.out.symm).1];exact uf.mk av aw
theorem X5(width n:Int)(w:World)(h:hw width=1):Calls prog 84 #[.int .i64 width,.int .i64 n] w (uf (.string (bs (tT 1 n))) w):=by
 have hcv:=GW;have H:=Lib.hid h;clear h;go_enter func84,ntmps84;go_wp2_with fail;obtain⟨m,hm⟩:∃m,IntKind.u64.wrap n=m:=gp;rw[hm];rw[IntKind.wrap_u64]at hm;have hm0:0<=m:=I;have hm1:m<=18446744073709551615:=I;have h2:=Y hm;clear hm;refine wp_loop_rounds 2 ?_;rw[rounds_succ];go_wp2_with fail;refine(vT _ _).mono ?_;rintro e w' ⟨rfl,rfl⟩;rw[H.out,show((1:Nat):Int)=1 from J];go_wp2_with fail;rw[rounds_succ];go_wp2_with fail;refine(vT _ _).mono ?_;rintro e w' ⟨rfl,rfl⟩;rw[H.out,show((1:Nat):Int)=1 from J];go_wp2_with fail;go_ret;rw[<-(Ek m n h2.out.symm).2.1];exact uf.mk av aw
theorem X6(width n:Int)(w:World)(h:hw width=2):Calls prog 84 #[.int .i64 width,.int .i64 n] w (uf (.string (bs (tT 2 n))) w):=by
 have hcv:=GW;have H:=Lib.hid h;clear h;go_enter func84,ntmps84;go_wp2_with fail;obtain⟨m,hm⟩:∃m,IntKind.u64.wrap n=m:=gp;rw[hm];rw[IntKind.wrap_u64]at hm;have hm0:0<=m:=I;have hm1:m<=18446744073709551615:=I;have h2:=Y hm;clear hm;refine wp_loop_rounds 3 ?_;rw[rounds_succ];go_wp2_with fail;refine(vT _ _).mono ?_;rintro e w' ⟨rfl,rfl⟩;rw[H.out,show((2:Nat):Int)=2 from J];go_wp2_with fail;rw[rounds_succ];go_wp2_with fail;refine(vT _ _).mono ?_;rintro e w' ⟨rfl,rfl⟩;rw[H.out,show((2:Nat):Int)=2 from J];go_wp2_with fail;rw[rounds_succ];go_wp2_with fail;refine(vT _ _).mono ?_;rintro e w' ⟨rfl,rfl⟩;rw[H.out,show((2:Nat):Int)=2 from J];go_wp2_with fail;go_ret;rw[<-(Ek m n h2.out.symm).2.2.1];exact uf.mk av aw
theorem X7(width n:Int)(w:World)(h:hw width=3):Calls prog 84 #[.int .i64 width,.int .i64 n] w (uf (.string (bs (tT 3 n))) w):=by
 have hcv:=GW;have H:=Lib.hid h;clear h;go_enter func84,ntmps84;go_wp2_with fail;obtain⟨m,hm⟩:∃m,IntKind.u64.wrap n=m:=gp;rw[hm];rw[IntKind.wrap_u64]at hm;have hm0:0<=m:=I;have hm1:m<=18446744073709551615:=I;have h2:=Y hm;clear hm;refine wp_loop_rounds 4 ?_;rw[rounds_succ];go_wp2_with fail;refine(vT _ _).mono ?_;rintro e w' ⟨rfl,rfl⟩;rw[H.out,show((3:Nat):Int)=3 from J];go_wp2_with fail;rw[rounds_succ];go_wp2_with fail;refine(vT _ _).mono ?_;rintro e w' ⟨rfl,rfl⟩;rw[H.out,show((3:Nat):Int)=3 from J];go_wp2_with fail;rw[rounds_succ];go_wp2_with fail;refine(vT _ _).mono ?_;rintro e w' ⟨rfl,rfl⟩;rw[H.out,show((3:Nat):Int)=3 from J];go_wp2_with fail;rw[rounds_succ];go_wp2_with fail;refine(vT _ _).mono ?_;rintro e w' ⟨rfl,rfl⟩;rw[H.out,show((3:Nat):Int)=3 from J];go_wp2_with fail;go_ret;rw[<-(Ek m n h2.out.symm).2.2.2.1];exact uf.mk av aw
theorem X8(width n:Int)(w:World)(h:hw width=4):Calls prog 84 #[.int .i64 width,.int .i64 n] w (uf (.string (bs (tT 4 n))) w):=by
 have hcv:=GW;have H:=Lib.hid h;clear h;go_enter func84,ntmps84;go_wp2_with fail;obtain⟨m,hm⟩:∃m,IntKind.u64.wrap n=m:=gp;rw[hm];rw[IntKind.wrap_u64]at hm;have hm0:0<=m:=I;have hm1:m<=18446744073709551615:=I;have h2:=Y hm;clear hm;refine wp_loop_rounds 5 ?_;rw[rounds_succ];go_wp2_with fail;refine(vT _ _).mono ?_;rintro e w' ⟨rfl,rfl⟩;rw[H.out,show((4:Nat):Int)=4 from J];go_wp2_with fail;rw[rounds_succ];go_wp2_with fail;refine(vT _ _).mono ?_;rintro e w' ⟨rfl,rfl⟩;rw[H.out,show((4:Nat):Int)=4 from J];go_wp2_with fail;rw[rounds_succ];go_wp2_with fail;refine(vT _ _).mono ?_;rintro e w' ⟨rfl,rfl⟩;rw[H.out,show((4:Nat):Int)=4 from J];go_wp2_with fail;rw[rounds_succ];go_wp2_with fail;refine(vT _ _).mono ?_;rintro e w' ⟨rfl,rfl⟩;rw[H.out,show((4:Nat):Int)=4 from J];go_wp2_with fail;rw[rounds_succ];go_wp2_with fail;refine(vT _ _).mono ?_;rintro e w' ⟨rfl,rfl⟩;rw[H.out,show((4:Nat):Int)=4 from J];go_wp2_with fail;go_ret;rw[<-(Ek m n h2.out.symm).2.2.2.2];exact uf.mk av aw
theorem wC(width n:Int)(w:World):Calls prog 84 #[.int .i64 width,.int .i64 n] w (uf (.string (bs (tT (hw width) n))) w):=by
 have h:hw width=0\/hw width=1\/hw width=2\/hw width=3\/hw width=4:=nP;rcases h with h|h|h|h|h
 ·rw[h];exact XZ width n w h
 ·rw[h];exact X5 width n w h
 ·rw[h];exact X6 width n w h
 ·rw[h];exact X7 width n w h
 ·rw[h];exact X8 width n w h
def zV(w:World)(g:Nat)(rest:List UInt8)(short:Bool):Prop:=Z w g 322 [.string (bs rest),.bool short]
def Kk(v:Value)(g:Nat)(rest:List UInt8)(short:Bool)(w:World)(e:Ending)(w':World):Prop:=
 e= .returned v/\zV w' g rest short/\w.grownBy w' (some g)
def acH(rest:List UInt8)(w:World)(e:Ending)(w':World):Prop:=
 e= .returned (.pointer (some ⟨w.heap.size,0,none⟩))/\zV w' w.heap.size rest false/\al w w'
theorem Dz(s:List UInt8)(w:World):Calls prog 176 #[.string (bs s)] w (acH s w):=by
 go_enter func176,ntmps176;go_wp2;go_ret;exact⟨J,Z.new _ _ [.string (bs s),.bool false],(Below.refl _ _).alloc (Nat.le_refl _) _⟩
def zp(rest:List UInt8)(short:Bool)(n:Int):List UInt8:=if short||decide (rest.length<n.toNat)then[]else rest.take n.toNat
def yE(rest:List UInt8)(short:Bool)(n:Int):List UInt8:=if short||decide (rest.length<n.toNat)then rest else rest.drop n.toNat
def yu(rest:List UInt8)(short:Bool)(n:Int):Bool:=short||decide (rest.length<n.toNat)
theorem X9(g:Nat)(rest:List UInt8)(short:Bool)(n:Int)(w:World)(h:zV w g rest short)(hl:rest.length<=maxLen):
  Calls prog 211 #[.pointer (some ⟨g,0,none⟩),.int .i64 n] w (Kk (.string (bs (zp rest short n))) g (yE rest short n) (yu rest short n) w):=by
 unfold maxLen at hl;have c0:=h.K 0 J;have c1:=h.K 1 J;have f0:=h.frozen 0;have f1:=h.frozen 1;cases short with
 |true=>go_enter func211,ntmps211;go_wp2;go_ret;exact⟨by simp[zp];rfl,by simpa[zV,yE,yu]using h,World.grownBy.refl _ _⟩
 |false=>
  by_cases Hh:rest.length<n.toNat
  ·have hn:(rest.length:Int)<n:=I;have hn0:0<=n:=I;have T:=Y Hh;clear Hh;go_enter func211,ntmps211;go_wp2;go_ret;exact⟨by simp[zp,T.out];rfl,by simpa[zV,yE,yu,T.out]using h.set 1 (.bool true),uq (World.grownBy.refl _ _) _ _⟩
  ·
   by_cases hn0:0<=n
   ·obtain⟨k,rfl⟩:=Int.eq_ofNat_of_zero_le hn0;have O:k<=rest.length:=I;have hk':(k:Int)<=rest.length:=I;have T:=Y Hh;clear Hh;go_enter func211,ntmps211;go_wp2;go_ret;have ht:=T.out;rw[Int.toNat_natCast]at ht;exact⟨by simp[zp,ht],by simpa[zV,yE,yu,ht]using h.set 0 (.string (bs (rest.drop k))),uq (World.grownBy.refl _ _) _ _⟩
   ·have hn:n<0:=I;have T:=Y Hh;clear Hh hn0;go_enter func211,ntmps211;go_wp2;go_ret;have ht:n.toNat=0:=I;exact⟨by simp[zp,ht];rfl,by simpa[zV,yE,yu,ht]using h.set 0 (.string (bs rest)),uq (World.grownBy.refl _ _) _ _⟩
theorem Kl(g:Nat)(rest:List UInt8)(short:Bool)(w:World)(h:zV w g rest short):
  Calls prog 264 #[.pointer (some ⟨g,0,none⟩)] w (yi (.int .i64 rest.length) w):=by
 have c0:=h.K 0 J;go_enter func264,ntmps264;go_wp2;exact o7
theorem GX(g:Nat)(rest:List UInt8)(short:Bool)(w:World)(h:zV w g rest short):
  Calls prog 263 #[.pointer (some ⟨g,0,none⟩)] w (yi (.int .i64 (if short then 1 else 0)) w):=by
 have c1:=h.K 1 J;cases short;all_goals
  go_enter func263,ntmps263;go_wp2;exact o7
def VT(rest:List UInt8)(short:Bool):Int:=if short then 1 else if rest=[]then 0 else 2
theorem aaL(g:Nat)(rest:List UInt8)(short:Bool)(w:World)(h:zV w g rest short):
  Calls prog 265 #[.pointer (some ⟨g,0,none⟩)] w (yi (.int .i64 (VT rest short)) w):=by
 cases short with
 |true=>go_enter func265,ntmps265;go_wp2_with(go_at_call 263;refine(GX _ _ _ _ h).mono ?_;rintro e w' ⟨rfl,rfl⟩);exact o7
 |false=>
  rcases rest with _|⟨c,rest⟩
  ·go_enter func265,ntmps265;go_wp2_with(first|(go_at_call 263;refine(GX _ _ _ _ h).mono ?_;rintro e w' ⟨rfl,rfl⟩)|(go_at_call 264;refine(Kl _ _ _ _ h).mono ?_;rintro e w' ⟨rfl,rfl⟩));exact o7
  ·go_enter func265,ntmps265;go_wp2_with(first|(go_at_call 263;refine(GX _ _ _ _ h).mono ?_;rintro e w' ⟨rfl,rfl⟩)|(go_at_call 264;refine(Kl _ _ _ _ h).mono ?_;rintro e w' ⟨rfl,rfl⟩));exact o7
theorem MY(l:List UInt8)(k:Nat)(h:k<l.length):uN (l.take (k+1))=256*uN (l.take k)+l[k].toNat:=by
 rw[List.take_succ_eq_append_getElem h,MX]
theorem Af(l:List UInt8)(n:Nat)(h:l.length<=n):uN l<256^n:=Nat.lt_of_lt_of_le (aaK l) (Nat.pow_le_pow_right ax h)
theorem Qf(l:List UInt8)(h:l.length<=4):uN l<4294967296:=Af l 4 h
theorem xW(l:List UInt8)(w:World)(hl:l.length<=4):Calls prog 43 #[.string (bs l)] w (yi (.int .i64 (uN l)) w):=by
 go_enter func43,ntmps43;go_wp2;go_loop[3,4] (fun n i=>∃k:Nat,k<=l.length/\i= .int .i64 k/\n= .int .i64 (uN (l.take k))) (fun _ i=>l.length-(intOf i).toNat)
 case atStart=>exact⟨0,Nat.zero_le _,J,J⟩
 case round=>
  obtain⟨k,O,rfl,rfl⟩:=hrel;have F:=Qf (l.take k) az;by_cases Hh:k<l.length
  ·
   have hs:=Y (MY l k Hh);have tQ:(k:Int)<l.length:=I;have hc:l[k].toNat<256:=l[k].toNat_lt;go_wp2;go_round
   case rel=>exact⟨k+1,I,fU,by rw[hs.out];go_num⟩
   case measure=>simp[intOf];omega
  ·have tQ:¬(k:Int)<l.length:=I;go_wp2;go_ret;exact yi.mk (yf fQ) J
theorem acI(n:Nat)(c:Nat)(hn:n<4294967296)(hc:c<256):bits .or .i64 ((n:Int)*256) (c:Int)=(256*(n:Int)+c):=by
 have e1:((n:Int)*256)=((n*256:Nat):Int):=I;have e2:(n*256)|||c=256*n+c:=by have:=Nat.two_pow_add_eq_or_of_lt (i:=8) (b:=c) I n;rw[Nat.mul_comm n 256];exact this.symm
 rw[e1];show IntKind.i64.wrap ((BitVec.ofInt 64 ((n*256:Nat):Int)|||BitVec.ofInt 64 (c:Int)).toNat:Int)=_;rw[BitVec.toNat_or,BitVec.ofInt_natCast,BitVec.ofInt_natCast,BitVec.toNat_ofNat,BitVec.toNat_ofNat,Nat.mod_eq_of_lt I,Nat.mod_eq_of_lt I,e2,IntKind.wrap_i64];omega
theorem JU(g:Nat)(rest:List UInt8)(short:Bool)(width:Int)(w:World)(h:zV w g rest short)(hl:rest.length<=maxLen):
  Calls prog 177 #[.pointer (some ⟨g,0,none⟩),.int .i64 width] w (Kk (.int .i64 (uN (zp rest short (hw width)))) g (yE rest short (hw width)) (yu rest short (hw width)) w):=by
 have ht:(zp rest short (hw width)).length<=4:=by have:=XY width;unfold zp;split<;>simp<;>omega
 go_enter func177,ntmps177;go_wp2_with fail;refine(CZ _ _).mono ?_;rintro e w' ⟨rfl,rfl⟩;go_wp2_with fail;refine(X9 g rest short _ _ h hl).mono ?_;rintro e w1 ⟨rfl,U,hg1⟩;generalize zp rest short (hw width)=l at*;go_wp2_with(refine Kj _ J (.tmp 11) 9 145 5 J underlying9 underlying145 underlying5 l J ?_);intro cap w2 agw hby hb2 hsz;go_wp2_with fail;go_loop[5,7,14] (fun n _ i=>∃k:Nat,k<=l.length/\i= .int .i64 k/\n= .int .i64 (uN (l.take k))) (fun _ _ i=>l.length-(intOf i).toNat)
 case atStart=>exact⟨0,Nat.zero_le _,J,J⟩
 case round=>
  obtain⟨k,O,rfl,rfl⟩:=hrel;have F:=Qf (l.take k) az;by_cases Hh:k<l.length
  ·
   have hs:=Y (MY l k Hh);have tQ:(k:Int)<l.length:=I;have hc:l[k].toNat<256:=l[k].toNat_lt;have ago:=hby.ud k Hh;rw[Nat.zero_add]at ago;go_wp2;go_round
   case rel=>exact⟨k+1,I,fU,by rw[acI _ _ F hc,hs.out];go_num⟩
   case measure=>simp[intOf];omega
  ·have tQ:¬(k:Int)<l.length:=I;go_wp2;go_ret;exact⟨yf fQ,U.G hb2 U.lt,vk hg1 hb2⟩
theorem ofNat_mod(n:Int):((UInt8.ofNat (n%256).toNat).toNat:Int)=n%256:=by
 rw[UInt8.toNat_ofNat'];omega
theorem Ir:∀(k:Nat) (n:Int),(uN (tT k n):Int)=n% (256^k:Nat):=by
 intro k;induction k with
 |zero=>intro n;simp[tT,uN]
 |succ k ih=>
  intro n;have U:=ih (n/256);have X:=ofNat_mod n;rw[tT,MX];have hp:0<256^k:=Nat.pow_pos ax;generalize hq:256^k=m at*;have e:n% ((256*m:Nat):Int)=256*(n/256% (m:Int))+n%256:=by
   have hm:(0:Int)<m:=I;have b2:=Int.emod_lt_of_pos (n/256) hm;have d:=Int.emod_add_mul_ediv (n/256) m;have key:n=(256*(n/256% (m:Int))+n%256)+((256*m:Nat):Int)*(n/256/m):=by
    have:((256*m:Nat):Int)*(n/256/m)=256*((m:Int)*(n/256/m)):=by rw[Int.natCast_mul];exact Int.mul_assoc _ _ _
    rw[this];omega
   have:n% ((256*m:Nat):Int)=(256*(n/256% (m:Int))+n%256)% ((256*m:Nat):Int):=by
    conv=>lhs;rw[key]
    exact Int.add_mul_emod_self_left _ _ _
   rw[this];exact Int.emod_eq_of_lt I I
  rw[Nat.pow_succ,hq,Nat.mul_comm m 256,e];omega
def zz(l:List UInt8):List UInt8:=UInt8.ofNat l.length::l
def ww(n:List (List UInt8)):List UInt8:=n.flatMap zz
theorem El(l:List UInt8):(zz l).length=l.length+1:=by simp[zz]
@[simp] theorem ad4:ww []=[]:=rfl
theorem Bl(l:List UInt8)(n:List (List UInt8)):ww (l::n)=zz l++ww n:=by simp[ww]
theorem Km(a b:List (List UInt8)):ww (a++b)=ww a++ww b:=by simp[ww]
def uQ:List (List UInt8)->Nat
 |[]=>0
 |l::n=>l.length+1+uQ n
theorem Kn(a b:List (List UInt8)):uQ (a++b)=uQ a+uQ b:=by
 induction a with
 |nil=>simp[uQ]
 |cons l a ih=>simp[uQ,ih];omega
theorem vK(n:List (List UInt8)):(ww n).length=uQ n:=by
 induction n with
 |nil=>rfl
 |cons l n ih=>rw[Bl,List.length_append,El,ih,uQ]
theorem zE(n:List (List UInt8)):n.length<=uQ n:=by
 induction n with
 |nil=>simp
 |cons l n ih=>simp[uQ];omega
theorem C8(n:List (List UInt8))(k:Nat)(h:k<n.length):uQ (n.take (k+1))=uQ (n.take k)+(n[k].length+1):=by
 rw[List.take_succ_eq_append_getElem h,Kn];simp[uQ]
theorem wD(n:List (List UInt8))(k:Nat):uQ (n.take k)<=uQ n:=by
 have:=Kn (n.take k) (n.drop k);rw[List.take_append_drop]at this;omega
def DA(l:List UInt8):Bool:=decide (l.length<1)||decide (63<l.length)
def tY(n:List (List UInt8)):Int:=if n.any DA then 7 else if 255<1+uQ n then 3 else 0
theorem wK{n:List (List UInt8)}(h:tY n=0):(∀l∈n,1<=l.length/\l.length<=63)/\1+uQ n<=255:=by
 unfold tY at h;split at h
 ·cases h
 ·
  rename_i ha;split at h
  ·cases h
  ·
   refine⟨fun l hl=>?_,I⟩;have F:DA l=false:=by
    cases h:DA l with
    |false=>rfl
    |true=>exact absurd (List.any_eq_true.2 ⟨l,hl,h⟩) ha
   simp[DA]at F;cases l with
   |nil=>simp at F
   |cons x l=>simp at F⊢;omega
theorem Ko{n:List (List UInt8)}(h:∀l∈n,1<=l.length/\l.length<=63)(hs:1+uQ n<=255):tY n=0:=by
 unfold tY;have:n.any DA=false:=by rw[List.any_eq_false];intro l hl;have:=h l hl;rw[DA,decide_eq_false I,decide_eq_false I];simp
 rw[this,if_neg ap,if_neg I]
def yv(n:List (List UInt8)):Prop:=∀l∈n,1<=l.length/\l.length<=63
theorem yv.tail{l:List UInt8}{n:List (List UInt8)}(h:yv (l::n)):yv n:=fun x hx=>h x (List.mem_cons_of_mem _ hx)
theorem yv.drop{n:List (List UInt8)}(h:yv n)(k:Nat):yv (n.drop k):=fun x hx=>h x (List.mem_of_mem_drop hx)
theorem yD{k:Nat}(h:k<=255):(UInt8.ofNat k).toNat=k:=by
 rw[UInt8.toNat_ofNat'];exact Nat.mod_eq_of_lt I
theorem Ya:∀(a b:List (List UInt8)),yv a->yv b->ww a=ww b->a=b:=by
 intro a;induction a with
 |nil=>
  intro b _ _ h;cases b with
  |nil=>rfl
  |cons y b=>rw[Bl]at h;simp[zz]at h
 |cons x a ih=>
  intro b ga gb h;cases b with
  |nil=>rw[Bl]at h;simp[zz]at h
  |cons y b=>
   rw[Bl,Bl]at h;simp only[zz,List.cons_append,List.cons.injEq]at h;obtain⟨U,X⟩:=h;have gx:=ga x (List.mem_cons_self ..);have gy:=gb y (List.mem_cons_self ..);have hl:x.length=y.length:=by have:=congrArg UInt8.toNat U;rwa[yD I,yD I]at this
   obtain⟨e1,e2⟩:=List.append_inj X hl;rw[e1,ih b ga.tail gb.tail e2]
def look(T:List (List (List UInt8)×Nat))(n:List (List UInt8)):Option Nat:=(T.find? fun r=>r.1==n).map (·.2)
def low(ud:Int)(k:Nat):Bool:=decide (0<=ud)&&decide (ud<16384)&&decide (ud+k<16384)
theorem Ah(ud:Int)(k:Nat):low ud k=true↔0<=ud/\ud<16384/\ud+k<16384:=by simp[low,and_assoc]
def EZ(T:List (List (List UInt8)×Nat))(ud:Int)(pre:List UInt8):List (List UInt8)->List UInt8×List (List (List UInt8)×Nat)
 |[]=>(pre++[0],[])
 |l::n=>match look T (l::n)with
  |some q0=>(pre++tT 2 (49152+q0),[])
  |none=>((EZ T ud (pre++zz l) n).1,(if low ud pre.length then[(l::n,(ud+pre.length).toNat)]else[])++(EZ T ud (pre++zz l) n).2)
theorem GY{T:List (List (List UInt8)×Nat)}{ud:Int}{pre l:List UInt8}{n:List (List UInt8)}{q0:Nat}(h:look T (l::n)=some q0):EZ T ud pre (l::n)=(pre++tT 2 (49152+q0),[]):=by
 rw[EZ,h]
theorem Kp{T:List (List (List UInt8)×Nat)}{ud:Int}{pre l:List UInt8}{n:List (List UInt8)}(h:look T (l::n)=none):EZ T ud pre (l::n)=((EZ T ud (pre++zz l) n).1,(if low ud pre.length then[(l::n,(ud+pre.length).toNat)]else[])++(EZ T ud (pre++zz l) n).2):=by
 rw[EZ,h]
theorem CG(T aqK:List (List (List UInt8)×Nat))(n:List (List UInt8))(h:∀r∈aqK,r.1≠n):look (T++aqK) n=look T n:=by
 unfold look;rw[List.find?_append];have:aqK.find? (fun r=>r.1==n)=none:=by rw[List.find?_eq_none];intro r hr;simpa using h r hr
 rw[this];simp
theorem Kq{T:List (List (List UInt8)×Nat)}{n:List (List UInt8)}{q:Nat}(h:look T n=some q):(n,q)∈T:=by
 unfold look at h;rw[Option.map_eq_some_iff]at h;obtain⟨r,hr,rfl⟩:=h;have U:=List.find?_some hr;have X:=List.mem_of_find?_eq_some hr;have:r.1=n:=il;rw[<-this];exact X
inductive Rd (m:List UInt8):Nat->Nat->List (List UInt8)->Nat->Prop where
 |nil {b p}:p<m.length->(m.getD p 0).toNat=0->Rd m b p [] (p+1)
 |cons {b p l n e}:p<m.length->(m.getD p 0).toNat=l.length->1<=l.length->l.length<=63->p+1+l.length<=m.length->(m.take (p+1+l.length)).drop (p+1)=l->Rd m b (p+1+l.length) n e->Rd m b p (l::n) e
 |ptr {b p q n e}:p+1<m.length->192<=(m.getD p 0).toNat->(m.getD p 0).toNat*256+(m.getD (p+1) 0).toNat-49152=q->q<b->Rd m q q n e->Rd m b p n (p+2)
theorem GZ(m y:List UInt8)(p:Nat)(h:p<m.length):(m++y).getD p 0=m.getD p 0:=by
 simp[List.getD,List.getElem?_append_left h]
theorem Rd.CY{b p:Nat}{n:List (List UInt8)}{e:Nat}(h:Rd m b p n e)(y:List UInt8):Rd (m++y) b p n e:=by
 induction h with
 |nil U X=>exact .nil az aB
 |cons U X h3 h4 h5 h6 _ ih=>exact .cons az aB h3 h4 az (by rw[List.take_append_of_le_length h5];exact h6) ih
 |ptr U X h3 h4 _ ih=>exact .ptr az (by rw[GZ _ _ _ I];exact X) (by rw[GZ _ _ _ I,GZ _ _ _ U];exact h3) h4 ih
theorem Rd.mono{b p:Nat}{n:List (List UInt8)}{e:Nat}(h:Rd m b p n e):∀b',b<=b'->Rd m b' p n e:=by
 induction h with
 |nil U X=>intro b' F;exact .nil U X
 |cons U X h3 h4 h5 h6 _ ih=>intro b' F;exact .cons U X h3 h4 h5 h6 (ih b' F)
 |ptr U X h3 h4 h5 ih=>intro b' F;exact .ptr U X h3 I h5
def Em(m:List UInt8)(T:List (List (List UInt8)×Nat)):Prop:=∀r∈T,r.1≠[]/\r.2<16384/\r.2<m.length/\∃e,Rd m r.2 r.2 r.1 e
theorem Em.CY{T:List (List (List UInt8)×Nat)}(h:Em m T)(y:List UInt8):Em (m++y) T:=by
 intro r hr;obtain⟨U,X,h3,e,h4⟩:=h r hr;exact⟨U,X,az,e,h4.CY y⟩
theorem Yb(q0:Nat)(h:q0<16384):tT 2 (49152+q0)=[UInt8.ofNat (192+q0/256),UInt8.ofNat (q0%256)]:=by
 have e1:((49152+(q0:Int))/256%256).toNat=192+q0/256:=I;have e2:((49152+(q0:Int))%256).toNat=q0%256:=I;simp[tT,e1,e2]
theorem JV(x y:List UInt8)(c:UInt8):(x++c::y).getD x.length 0=c:=by simp[List.getD]
theorem Yc(x y:List UInt8)(c d:UInt8):(x++c::d::y).getD (x.length+1) 0=d:=by simp[List.getD]
theorem Yd(q0:Nat)(h:q0<16384):(UInt8.ofNat (192+q0/256)).toNat*256+(UInt8.ofNat (q0%256)).toNat-49152=q0:=by
 rw[yD I,yD I];omega
theorem acJ(T:List (List (List UInt8)×Nat))(first:List UInt8)(hT:Em first T):∀(n:List (List UInt8)) (pre:List UInt8),yv n->
  (∃a,(EZ T first.length pre n).1=pre++a/\a.length<=uQ n+1/\1<=a.length/\∀b,first.length<=b->Rd (first++(pre++a)) b (first.length+pre.length) n (first.length+pre.length+a.length))/\
  Em (first++(EZ T first.length pre n).1) (EZ T first.length pre n).2:=by
 intro n;induction n with
 |nil=>intro pre _;refine⟨⟨[0],J,by simp[uQ],ap,fun b _=>?_⟩,by simp[EZ,Em]⟩;refine .nil ap ?_;rw[<-List.append_assoc,<-List.length_append,JV];rfl
 |cons l n ih=>
  intro pre hg;have hl:=hg l (List.mem_cons_self ..);cases O:look T (l::n)with
  |some q0=>
   rw[GY O];have hm:=Kq O;obtain⟨U,X,h3,e,h4⟩:=hT _ hm;simp only at U X h3 h4;simp only;refine⟨⟨tT 2 (49152+q0),J,by rw[tR];simp[uQ];omega,by rw[tR];omega,fun b F=>?_⟩,by simp[Em]⟩;rw[tR,Yb q0 X];refine .ptr (q:=q0) (e:=e) az ?_ ?_ I ?_
   ·rw[<-List.append_assoc,<-List.length_append,JV,yD I];omega
   ·rw[<-List.append_assoc,<-List.length_append,JV,Yc];exact Yd q0 X
   ·exact h4.CY _
  |none=>
   rw[Kp O];obtain⟨⟨a,ha,hla,aFe,hr⟩,ht⟩:=ih (pre++zz l) hg.tail;have hR:∀b,first.length<=b->Rd (first++(pre++(zz l++a))) b (first.length+pre.length) (l::n) (first.length+pre.length+(zz l++a).length):=by
    intro b F;have:=hr b F;rw[List.append_assoc]at this;rw[show first.length+(pre++zz l).length=first.length+pre.length+1+l.length by simp[zz];omega]at this;rw[show first.length+pre.length+(zz l++a).length=first.length+pre.length+1+l.length+a.length by simp[zz];omega];refine .cons (by simp[zz]) ?_ hl.1 hl.2 (by simp[zz];omega) ?_ this
    ·rw[<-List.append_assoc,<-List.length_append];simp only[zz,List.cons_append];rw[JV,yD I]
    ·
     have e1:first++(pre++(zz l++a))=(first++pre++[UInt8.ofNat l.length])++(l++a):=by simp[zz]
     have e2:first.length+pre.length+1=(first++pre++[UInt8.ofNat l.length]).length:=az;rw[e1,e2,List.drop_take,List.drop_left,Nat.add_sub_cancel_left,List.take_left]
   refine⟨⟨zz l++a,by rw[ha];simp,by rw[List.length_append,El,uQ];omega,by rw[List.length_append];omega,hR⟩,?_⟩;intro r hr';rcases List.mem_append.1 hr' with h|h
   ·
    by_cases hc:low first.length pre.length=true
    ·
     rw[if_pos hc,List.mem_singleton]at h;have hc':=(Ah _ _).1 hc;have e:(((first.length:Int))+(pre.length:Int)).toNat=first.length+pre.length:=I;rw[e]at h;rw[h];refine⟨ap,I,?_,first.length+pre.length+(zz l++a).length,?_⟩
     ·rw[ha];simp[zz]
     ·rw[ha,List.append_assoc];exact hR _ I
    ·rw[if_neg hc]at h;cases h
   ·exact ht r h
theorem Ye(ud:Int):∀(n:List (List UInt8)) (pre:List UInt8),(EZ [] ud pre n).1=pre++ww n++[0]:=by
 intro n;induction n with
 |nil=>intro pre;simp[EZ]
 |cons l n ih=>intro pre;rw[Kp J,ih,Bl];simp
theorem DB:(prog.info? 9).map (fun i=>(i.zero,i.size,i.bytes))=some (some (.string ⟨#[]⟩),1,16):=by kernel_rfl
def wh(w:World)(v:Value)(l:List (List UInt8)):Prop:=w.ownsRow 0 9 1 v l.length (l.map fun t=>Value.string (bs t))
theorem wh.nil(w:World):wh w (.slice none 0 0) []:=World.ownsRow_nil _ _ _ _
theorem wh.G{l:List (List UInt8)}(h:wh w v l)(F:al w w'):wh w' v l:=by
 refine World.ownsRow.kept h (uj F none) ?_;cases hv:v.ownBlock with
 |none=>exact .inl J
 |some g=>exact .inr ap
theorem wh.grown{l:List (List UInt8)}{k:Nat}(h:wh w v l)(hg:w.grownBy w' (some k))(O:Z w k t cs)(ht:t≠9):wh w' v l:=by
 refine World.ownsRow.kept h hg ?_;cases hv:v.ownBlock with
 |none=>exact .inl J
 |some g=>
  refine .inr ?_;intro e;injection e with e;subst e;rcases h.2 with⟨rfl,_⟩|⟨g',cap,cur,rfl,_,hh,_⟩
  ·simp[Value.ownBlock]at hv
  ·have:g'=g:=mT;subst this;unfold Z at O;rw[hh]at O;injection O with O;injection O with _ he;exact ht he.symm
theorem VU{e:TypeId}{size n:Nat}{xs:List Value}(h:w.ownsRow 0 e size v n xs)(hg:w.grownBy w' v.ownBlock):∀j t cs,t≠e->Z w j t cs->Z w' j t cs:=by
 intro j t cs hne F;refine F.grown hg ?_;rcases h.2 with⟨rfl,_⟩|⟨g',cap,cur,rfl,_,hh,_⟩
 ·simp[Value.ownBlock]
 ·intro he;have:j=g':=jN;exact rW
def zS(w:World)(A:Option Addr)(l:List (List UInt8)):Prop:=0<l.length->∃b off,A=some ⟨b,off,none⟩/\b<w.heap.size/\∀i (hi:i<l.length),w.cell? ⟨b,off+i,none⟩=some (.string (bs l[i]))
theorem wh.form{l:List (List UInt8)}(h:wh w v l):∃A c,v= .slice A l.length c/\zS w A l/\l.length<=c:=by
 rcases h.2 with⟨rfl,h0⟩|⟨g,cap,cur,rfl,_,hh,hnc,_⟩
 ·refine⟨none,0,?_,fun hp=>absurd hp I,I⟩;rw[h0]
 ·
  refine⟨some ⟨g,0,none⟩,cap,J,fun _=>⟨g,0,J,?_,fun i hi=>?_⟩,hnc⟩
  ·
   rcases Nat.lt_or_ge g w.heap.size with Hh|hge
   ·exact Hh
   ·rw[Array.getElem?_eq_none hge]at hh;cases hh
  ·have:=World.ownsRow.cellAt h i I;rw[Nat.zero_add,this];simp[hi]
theorem zS.G{A:Option Addr}{l:List (List UInt8)}(h:zS w A l)(F:al w w'):zS w' A l:=by
 intro hp;obtain⟨b,off,hA,Hh,hc⟩:=h hp;exact⟨b,off,hA,Nat.lt_of_lt_of_le Hh F.size,fun i hi=>(F.cell Hh).trans (hc i hi)⟩
theorem Yf(A B:Option Addr)(a b:List (List UInt8))(ca cb:Nat)(w:World)(hA:zS w A a)(hB:zS w B b)(hm:a.length<=281474976710656)(hm2:b.length<=281474976710656):
  Calls prog 152 #[.slice A a.length ca,.slice B b.length cb] w (uf (.bool (decide (a=b))) w):=by
 by_cases hl:a.length=b.length
 ·
  have hl1:((a.length:Int) !=b.length)=false:=np;have HL:=Y hl;have hle:a.length<=b.length:=I;clear hl;go_enter func152,ntmps152;go_wp2_with fail;go_loopw[5] (fun i wr=>∃k:Nat,k<=a.length/\i= .int .i64 k/\a.take k=b.take k/\∃n,wr=w.drewN n) (fun i _=>a.length-(intOf i).toNat)
  case atStart=>exact⟨0,I,J,ap,0,J⟩
  case round=>
   obtain⟨k,O,rfl,htk,n,rfl⟩:=hrel;have TK:=Y htk;clear htk;by_cases Hh:k<a.length
   ·
    have tQ:(k:Int)<a.length:=I;have hlb:k<b.length:=I;have aE9:(k:Int)<b.length:=I;obtain⟨ba,oa,rfl,la,xa⟩:=hA I;obtain⟨bb,ob,rfl,lb,xb⟩:=hB I;have c1:=xa k Hh;have c2:=xb k hlb;clear xa xb;by_cases he:a[k]=b[k]
    ·
     have e1:(a[k]==b[k])=true:=iu;have HE:=Y he;clear he;go_wp2_with fail;go_quiet(fail);go_wp2_with fail;go_roundw
     case rel=>refine⟨k+1,I,fU,?_,_,J⟩;rw[List.take_succ_eq_append_getElem Hh,List.take_succ_eq_append_getElem hlb,TK.out,HE.out]
     case measure=>simp[intOf];omega
    ·
     have e1:(a[k]==b[k])=false:=iu;have hne:decide (a=b)=false:=by rw[decide_eq_false_iff_not];rintro rfl;exact he J
     have HN:=Y hne;clear he hne;go_wp2_with fail;go_quiet(fail);go_wp2_with fail;go_ret;exact uf.mk (zD HN.out.symm) (below_drewN (below_drewN (Below.refl _ _) _) _)
   ·
    have tQ:¬(k:Int)<a.length:=I;have hab:decide (a=b)=true:=by have U:=TK.out;rw[List.take_of_length_le I,List.take_of_length_le (by have:=HL.out;omega)]at U;simpa using U
    have HN:=Y hab;clear hab;go_wp2_with fail;go_ret;exact uf.mk (zD HN.out.symm) (below_drewN (Below.refl _ _) _)
 ·
  have hl1:((a.length:Int) !=b.length)=true:=az;have hne:decide (a=b)=false:=by rw[decide_eq_false_iff_not];rintro rfl;exact hl J
  rw[hne];clear hne;go_enter func152,ntmps152;exact qV
theorem Oz(m:List UInt8)(i c:Nat)(h:i<m.length)(hc:c=(m.getD i 0).toNat)(w:World):(Instr.index 9 (.string (bs m)) (.int .i64 (i:Int))).run prog w= .ok (.int .u8 (c:Int)) w:=by
 have e:m[i].toNat=c:=by rw[hc];simp[List.getD,List.getElem?_eq_getElem h]
 rw[run_index_string w _ _ _ _ underlying9,dif_pos ⟨Int.natCast_nonneg _,by rw[xf];omega⟩];have e2:((bs m)[((i:Int)).toNat]'(by rw[xf];simpa using h)).toNat=c:=by rw[acG];simpa using e
 rw[e2]
def vl(l:List UInt8):List Value:=l.map fun b=>Value.int .u8 (b.toNat:Int)
theorem vB(l:List UInt8):(vl l).length=l.length:=by simp[vl]
theorem AB(a b:List UInt8):vl (a++b)=vl a++vl b:=by simp[vl]
theorem C9(l:List UInt8)(j:Nat)(h:j<l.length):(vl l)[j]?=some (.int .u8 (l[j].toNat:Int)):=by simp[vl,h]
theorem Da:(prog.info? 5).map (fun i=>(i.zero,i.size,i.bytes))=some (some (.int .u8 0),1,1):=by kernel_rfl
theorem byteSize:(prog.info? 5).map (·.size)=some 1:=by kernel_rfl
theorem Qg:prog.cellsOf 5=1:=by kernel_rfl
theorem Ks(acZ:Value)(n:Nat)(h:acZ.cells= #[acZ]):(madeCells acZ.cells n).toList=List.replicate n acZ:=by
 rw[h];simp[madeCells,Nat.mod_one,List.map_const']
theorem Jf(n:Nat)(hn:n<=281474976710656)(W:World):(Instr.makeSlice 145 (.int .i64 (n:Int)) (.int .i64 (n:Int))).run prog W= .ok (.slice (some ⟨W.heap.size,0,none⟩) n n) (W.alloc (.cells (vl (List.replicate n 0)).toArray 5)):=by
 obtain⟨i0,hi,hz0,hz1,hz2⟩:=info_parts Da;have h:=run_make (P:=prog) W 145 5 i0 (.int .u8 0) underlying145 hi hz0 .i64 .i64 (n:Int) (n:Int) I I (by rw[hz2];omega) I;rw[hz1]at h;have e:(madeCells (Value.int .u8 0).cells (((n:Nat):Int).toNat*1))=(vl (List.replicate n 0)).toArray:=by have:=Ks (.int .u8 0) n J;rw[Int.toNat_natCast,Nat.mul_one];apply Array.toList_inj.1;rw[this];simp[vl]
 rw[e]at h;simpa using h
theorem Gt(h:Z w g t cs)(ds:List Value):Z (w.setRow g ds.toArray) g t ds:=setRow_heap _ _ cs.toArray _ t (0,0) h
theorem Td{g':Nat}(h:Z w g t cs)(ds:Array Value)(hne:g≠g'):Z (w.setRow g' ds) g t cs:=(setRow_other _ _ _ _ hne).trans h
theorem below_setRow(h:Below B a w)(hg:B<=g)(ds:Array Value):Below B a (w.setRow g ds):=
 h.trans ⟨J,J,J,ap,fun k O=>setRow_other _ _ _ _ I⟩
theorem Ha(W:World)(g o len cap:Nat)(s:List UInt8)(cs:List Value)(h:Z W g 5 cs)(hle:s.length<=len)(aoQ:o+s.length<=cs.length):
  (Builtin.copy_ #[145,9] 3 #[.slice (some ⟨g,o,none⟩) len cap,.string (bs s)]).run prog W= .ok (.int .i64 s.length) (W.setRow g (cs.take o++vl s++cs.drop (o+s.length)).toArray):=by
 have:=Lib.run_copy_row_string (P:=prog) W 145 9 3 5 g o len cap (bs s) cs.toArray 5 underlying145 byteSize h (by simpa using hle) (by simpa using aoQ);rw[this];simp[goInt,bs,Lib.byteCells,vl,ByteArray.size]
theorem Kt(W:World)(g cap:Nat)(l:List UInt8)(cs:List Value)(h:Z W g 5 cs)(hl:cs.take l.length=vl l):
  (convert 145 9 (.slice (some ⟨g,0,none⟩) l.length cap)).run prog W= .ok (.string (bs l)) W:=by
 refine run_convert_bytes_back W 145 9 5 ⟨g,0,none⟩ cap l underlying145 underlying5 underlying9 ?_;intro j hj;have hc:=h.cell j;have e:cs[j]?=(cs.take l.length)[j]?:=by rw[List.getElem?_take_of_lt hj]
 rw[e,hl,C9 l j hj]at hc;rw[<-hc];congr 1;unfold Addr.add;split<;>simp_all
end Go.Proofs.YthnbcmlnpdabhaaGreat
