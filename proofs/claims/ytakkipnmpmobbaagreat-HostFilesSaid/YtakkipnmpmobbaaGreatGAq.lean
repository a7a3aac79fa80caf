/-
  The common words of this seat's proofs:what a call comes to,and how memory is kept.
-/
import Derived.Test.YtakkipnmpmobbaaGreatRows
import Derived.WalkKit
import Derived.WalkSpells
import Derived.WalkLawsBesides
import Derived.Deep.QuietTactic
import Derived.BigQuiet
import Derived.Lib.Hide
import Derived.Handy
import Derived.Deep.RegionHeld3
import Derived.StillTailTactics
import Derived.Deep.LoopGhost
import Derived.Deep.RegionLaw
import Derived.Deep.DeepCutAuto
import Derived.Deep.Slices
import Derived.Maps.AppendAt
import Derived.Deep.AppendLies
import Derived.Lib.BufferWrite
import Derived.Laws.CopyOwn
namespace Go.Proofs.YtakkipnmpmobbaaGreat
variable {v u:Value} {w w' a:World} {P:Program} {Hh g:Nat} {ops:Array Oper} {rest:List Oper} {o:Oper} {m:List UInt8} {t:TypeId} {cs:List Value}
theorem I{α:Sort _}{a:α}:a=a:=rfl
section
variable {p:Prop}
theorem ar(h:p:=by simp):p:=h
theorem aw(h:p:=by simpa using h):p:=h
theorem ay(h:p:=by rw[Nat.pow_succ];omega):p:=h
theorem K(h:p:=by decide):p:=h
theorem Y(h:p:=by omega):p:=h
theorem aB(h:p:=by simp;omega):p:=h
theorem aC(h:p:=by rw[Et _ _ _ U];exact F):p:=h
theorem aD(h:p:=by simp at E⊢;omega):p:=h
theorem aE(h:p:=by rw[E];exact hi):p:=h
theorem aF(h:p:=by simpa using Z.there o sub.length hn):p:=h
theorem aG(h:p:=by simpa using hi):p:=h
theorem aH(h:p:=by simp[World.setCell]):p:=h
theorem aI(h:p:=by simp[hx]):p:=h
theorem aJ(h:p:=by simp[sI];omega):p:=h
theorem aK(h:p:=by rw[vB];omega):p:=h
theorem aL(h:p:=by simp only[maxLen];omega):p:=h
theorem aM(h:p:=by simpa using Z):p:=h
theorem aN(h:p:=by rfl):p:=h
theorem aO(h:p:=by simp[Value.oneCell']):p:=h
theorem aP(h:p:=by intro k O;injection O with O;omega):p:=h
theorem aQ(h:p:=by have:=hR.lt;omega):p:=h
theorem aR(h:p:=by simp[go_sem]):p:=h
theorem aS(h:p:=by have:=hB.size;simp;omega):p:=h
theorem aT(h:p:=by have:=hB2.size;simp;omega):p:=h
theorem aU(h:p:=by simp only[maxLen,List.length_drop];omega):p:=h
theorem aV(h:p:=by assumption):p:=h
theorem aW(h:p:=by rw[HR.out,HRN.out,List.append_nil]):p:=h
theorem aX(h:p:=by simp[sO,h.2]):p:=h
theorem aY(h:p:=by simp[h0]):p:=h
theorem aZ(h:p:=by simpa using O):p:=h
theorem a7(h:p:=by rw[Bd];omega):p:=h
theorem a9(h:p:=by rw[E];exact ta):p:=h
theorem bc(h:p:=by go_simp):p:=h
theorem bd(h:p:=by rw[L4l];exact ta):p:=h
theorem bf(h:p:=by have:=hN.2.2.1;omega):p:=h
theorem bh(h:p:=by simp[U]):p:=h
theorem bi(h:p:=by go_grown):p:=h
theorem bm(h:p:=by rw[List.length_drop];omega):p:=h
theorem bn(h:p:=by rw[List.length_drop,H12.out];omega):p:=h
theorem bp(h:p:=by simp[h]):p:=h
theorem bq(h:p:=by simp[ug]):p:=h
theorem br(h:p:=by rw[show WK.length=33 from uu ⟨I,I⟩];omega):p:=h
theorem bu(h:p:=by rw[z8,show sV.length=14 from I];omega):p:=h
theorem bw(h:p:=by have:=b4.size;simp;omega):p:=h
theorem bz(h:p:=by simpa using hgn.symm):p:=h
theorem bB(h:p:=by simpa using hgn):p:=h
theorem bC(h:p:=by simp only[List.length_set];omega):p:=h
theorem bD(h:p:=by rw[hL];exact uX I I I):p:=h
theorem bE(h:p:=by rw[ll];exact ta):p:=h
theorem bF(h:p:=by rw[hd];simpa using hn):p:=h
theorem bG(h:p:=by rw[Bd];exact ta):p:=h
theorem bH(h:p:=by rw[hL];exact uX I nv.one I):p:=h
theorem bI(h:p:=by rw[lMz];exact ta):p:=h
theorem bJ(h:p:=by rw[adR];decide):p:=h
theorem bK(h:p:=by rw[HK.out];rfl):p:=h
theorem bL(h:p:=by rw[hcl];exact uq):p:=h
theorem bQ(h:p:=by rw[amn,hcl];decide):p:=h
theorem bS(h:p:=by have:=g1.size;simp at this;omega):p:=h
theorem bU(h:p:=by have:=H2.size;simp;omega):p:=h
theorem bV(h:p:=by unfold KH;decide):p:=h
theorem bX(h:p:=by rw[hcl];exact Mc):p:=h
theorem bY(h:p:=by simpa using ahi 0 _ I):p:=h
theorem bZ(h:p:=by rw[ckl];exact ta):p:=h
theorem cC(h:p:=by have:=HBr.size;simp;omega):p:=h
theorem cD(h:p:=by simp only[List.length_take];omega):p:=h
theorem cE(h:p:=by rw[<-PL.eq];exact E):p:=h
theorem cF(h:p:=by unfold tq.Em;simp):p:=h
theorem cG(h:p:=by rw[z8];decide):p:=h
theorem cH(h:p:=by simp[HAL.out]):p:=h
theorem cI(h:p:=by simp only[List.length_append,rL];omega):p:=h
theorem cJ(h:p:=by simp[e1]):p:=h
theorem cK(h:p:=by simp only[List.length_append];omega):p:=h
theorem cL(h:p:=by simp[l]):p:=h
theorem cM(h:p:=by have:=hB1.size;simp;omega):p:=h
theorem cO(h:p:=by rw[y.sv.rY h];omega):p:=h
theorem cP(h:p:=by rw[hdl,Cw];omega):p:=h
theorem cQ(h:p:=by rw[hdl];exact tn):p:=h
theorem cR(h:p:=by have:=Cw;omega):p:=h
theorem cT(h:p:=by rw[hO];simp[vz,hr]):p:=h
theorem cU(h:p:=by simp[sI]):p:=h
theorem cV(h:p:=by simp[uh]):p:=h
theorem cW(h:p:=by rw[xV h];omega):p:=h
theorem cX(h:p:=by cases h):p:=h
theorem cY(h:p:=by simp[Act.eval,Act.put]):p:=h
theorem cZ(h:p:=by rw[hcl];exact Mu):p:=h
theorem da(h:p:=by rw[hcl];exact Mv):p:=h
theorem db(h:p:=by simp[hc]<;>omega):p:=h
theorem dc(h:p:=by rw[hcl];exact yN):p:=h
theorem dd(h:p:=by rw[List.length_map];omega):p:=h
theorem de(h:p:=by rw[hzl,hcl];decide):p:=h
theorem df(h:p:=by rw[hfl];exact xv):p:=h
theorem dg(h:p:=by rw[hl1];exact wE):p:=h
theorem dh(h:p:=by rw[hcs];rfl):p:=h
theorem di(h:p:=by first|(simp;done)|(simp;omega)):p:=h
theorem dj(h:p:=by rw[hcs.out];rfl):p:=h
theorem dm(h:p:=by rw[hel];exact uq):p:=h
theorem dq(h:p:=by rw[hel];exact Mc):p:=h
theorem dr(h:p:=by rw[hRl];exact wE):p:=h
theorem du(h:p:=by rw[hcl];exact aaQ):p:=h
theorem dw(h:p:=by rw[<-B1'.cell 1];exact d1):p:=h
theorem dx(h:p:=by rw[hfl];simp):p:=h
theorem dz(h:p:=by rw[h2.out];rfl):p:=h
theorem dA(h:p:=by rw[<-HV.out];rfl):p:=h
theorem dB(h:p:=by show x.Di<=_;omega):p:=h
theorem dC(h:p:=by rw[hOl];exact zv):p:=h
theorem dD(h:p:=by rw[FV.out];rfl):p:=h
theorem dE(h:p:=by simp;exact h37):p:=h
theorem dF(h:p:=by rw[l15];exact zv):p:=h
theorem dG(h:p:=by rw[yO U hq];omega):p:=h
theorem dH(h:p:=by rw[hMl];omega):p:=h
theorem dI(h:p:=by rw[hdn];decide):p:=h
theorem dJ(h:p:=by go_simp;exact CF.out _ _ _):p:=h
theorem dK(h:p:=by rw[arx];exact zv):p:=h
theorem dL(h:p:=by unfold ug;cases e<;>simp):p:=h
theorem dM(h:p:=by rw[<-h.ln];exact e):p:=h
theorem dN(h:p:=by rw[hn.out]at hi;omega):p:=h
theorem dO(h:p:=by rw[HN.out,HM.out];exact apa):p:=h
theorem dP(h:p:=by rw[hQl];exact xS):p:=h
theorem dQ(h:p:=by unfold XTy;decide):p:=h
theorem dR(h:p:=by unfold Eg;decide):p:=h
theorem dS(h:p:=by unfold Dy;decide):p:=h
theorem dT(h:p:=by rw[hcl];exact aga):p:=h
theorem dU(h:p:=by rw[sI,h3]):p:=h
theorem dV(h:p:=by rw[r2];exact aaQ):p:=h
theorem dW(h:p:=by rw[<-hzs.out];simp):p:=h
theorem dX(h:p:=by simp[Value.oneCell',rI]):p:=h
theorem dY(h:p:=by rw[HE.out];rfl):p:=h
theorem dZ(h:p:=by rw[HR.out];rfl):p:=h
theorem ec(h:p:=by rw[<-amf];simp):p:=h
theorem ee(h:p:=by rw[List.length_append];omega):p:=h
theorem eg(h:p:=by rw[h.ad.rY rB];omega):p:=h
theorem eh(h:p:=by rw[hRf.out];rfl):p:=h
theorem ei(h:p:=by rw[hRt.out];rfl):p:=h
theorem ej(h:p:=by rw[FT.out];unfold Nk;rw[hi];rfl):p:=h
theorem eo(h:p:=by rw[HS.out];exact hn2.out):p:=h
theorem et(h:p:=by rw[hn2.out,c];rfl):p:=h
theorem eu(h:p:=by rw[<-hn2.out];exact h0):p:=h
theorem ew(h:p:=by rw[FT2.out];exact hn2.out):p:=h
theorem ey(h:p:=by rw[<-hn2.out];simp only[maxLen];omega):p:=h
theorem eB(h:p:=by rw[<-hn2.out];omega):p:=h
theorem eC(h:p:=by rw[FT2.out];exact hl6.symm):p:=h
theorem eD(h:p:=by rw[hxl];exact uq):p:=h
theorem eE(h:p:=by rw[hLa];exact uq):p:=h
theorem eF(h:p:=by rw[FT2.out];exact hnf.out):p:=h
theorem eG(h:p:=by rw[FT2.out];exact HN.out):p:=h
theorem eH(h:p:=by unfold UU;decide):p:=h
theorem eI(h:p:=by rw[Int.toNat_natCast];exact F):p:=h
theorem eJ(h:p:=by simp[Bi,Sm]):p:=h
theorem eK(h:p:=by rw[<-hvs];rfl):p:=h
theorem eL(h:p:=by simpa using hg1.symm):p:=h
theorem eM(h:p:=by unfold Fq;decide):p:=h
theorem eO(h:p:=by show some (Dw c.pp)=_;rw[hpp];rfl):p:=h
theorem eP(h:p:=by show some (Dw c.pp)=_;rw[HPP.out];rfl):p:=h
theorem eQ(h:p:=by rw[K5.len];decide):p:=h
theorem eR(h:p:=by simpa using hgg.symm):p:=h
theorem eS(h:p:=by rw[K3d.len];decide):p:=h
theorem eT(h:p:=by rw[K4.len];decide):p:=h
theorem eU(h:p:=by show some (Dw c.pp)=_;rw[h.pp];rfl):p:=h
theorem eV(h:p:=by rw[HT3.out.len];decide):p:=h
theorem eW(h:p:=by have:=HP.out.rs;omega):p:=h
theorem eX(h:p:=by have:=O.1.lt;omega):p:=h
theorem eY(h:p:=by show some (Value.bool c.dn)=_;rw[h.dn]):p:=h
theorem eZ(h:p:=by have:=Gm r;omega):p:=h
theorem ff(h:p:=by rw[List.drop_zero];exact hTt):p:=h
theorem fg(h:p:=by have:=HH1.out.size;omega):p:=h
theorem fh(h:p:=by simp;have:=h.g;omega):p:=h
theorem fi(h:p:=by rw[aj2];exact yN):p:=h
theorem fj(h:p:=by simpa[aj2]using B5):p:=h
theorem fl(h:p:=by rw[List.drop_zero,List.take_left' HAL.out]):p:=h
theorem fo(h:p:=by rw[List.length_take,List.length_map];omega):p:=h
theorem fw(h:p:=by unfold yE wh zi;rw[HN6.out]):p:=h
theorem fx(h:p:=by rw[HOK.out];decide):p:=h
theorem fy(h:p:=by rw[HOK.out,hz',Bool.true_and,decide_eq_true];omega):p:=h
theorem fA(h:p:=by simp[hRl]):p:=h
theorem fB(h:p:=by simpa[hRl]using B9):p:=h
theorem fC(h:p:=by simpa[hRl]using B7):p:=h
theorem fD(h:p:=by rw[hel];exact Mv):p:=h
theorem fE(h:p:=by rw[HCE.out];rfl):p:=h
theorem fF(h:p:=by rw[h13];exact xv):p:=h
theorem fG(h:p:=by rw[h0];rfl):p:=h
theorem fH(h:p:=by rw[List.drop_zero];exact L0):p:=h
theorem fI(h:p:=by rw[List.drop_zero];exact aDz.out):p:=h
theorem fJ(h:p:=by decide+kernel):p:=h
theorem fK(h:p:=by rw[hn2.out];exact aA4):p:=h
theorem fL(h:p:=by rw[List.take_of_length_le Y]):p:=h
theorem fM(h:p:=by go_simp;exact IntWalk.i64_in _ Y):p:=h
theorem fN(h:p:=by simp;intro he;subst he;have:=O.1;unfold N at this hM;rw[this]at hM;injection hM with hM;injection hM with _ hM;exact absurd hM K):p:=h
theorem fO(h:p:=by rw[FS.out,if_neg fx,List.append_nil];exact HLO.out):p:=h
theorem fP(h:p:=by rw[FS.out,if_pos fy];rw[<-HLO.out]):p:=h
theorem fQ(h:p:=by go_num):p:=h
theorem fR(h:p:=by simp only;omega):p:=h
theorem fS(h:p:=by simpa using ad1):p:=h
theorem fT(h:p:=by simpa using F):p:=h
theorem fU(h:p:=by simp<;>omega):p:=h
theorem fV(h:p:=by show 1<=x.left-1;omega):p:=h
theorem fW(h:p:=by show x.left-1<=x.tmo;omega):p:=h
theorem fX(h:p:=by simp at h5⊢;omega):p:=h
theorem fY(h:p:=by congr 1):p:=h
theorem fZ(h:p:=by exact(Below.refl _ _).alloc (Nat.le_refl _) _):p:=h
theorem gh(h:p:=by exact⟨_,I⟩):p:=h
theorem gi(h:p:=by obtain⟨_,_,_,_,_,_,rfl,hr,_⟩:=h;rfl):p:=h
theorem gj(h:p:=by exact rE ((((Below.refl _ _).alloc (Nat.le_refl _) _).alloc ar _).alloc aB _) hg3 aB Y):p:=h
theorem gn(h:p:=by exact uJ.sD (w:=wr.drew) (oQ.G (Below.refl _ _).drew) g3 (N.drew R) K K):p:=h
theorem gu(h:p:=by exact rE (w:=wr.drew) bR.drew g3 bR.size Y):p:=h
theorem gA(h:p:=by exact(N.uE _ _ [.int .i64 c0,.int .i64 c1,.int .i64 c2,.int .i64 c3] _ ar).G b1 ar):p:=h
theorem gB(h:p:=by rw[List.drop_of_length_le a7,List.append_nil]at hb3;exact hb3):p:=h
theorem gC(h:p:=by obtain⟨_,_,_,_,_,_,rfl,hr,_⟩:=h;exact uu hr):p:=h
theorem gD(h:p:=by exact J (fun w' hS=>⟨rI,v,rI,hL,hwf,by rw[hr];exact y7.nil _,by rw[hr];exact nv.rM hS,by rw[hr];exact y7.nil _,by rw[hr];simp[RR.zero]⟩)):p:=h
theorem gE(h:p:=by exact List.length_eq_zero_iff.1 Y):p:=h
theorem gF(h:p:=by exact((Below.refl _ _).alloc (Nat.le_refl _) _).alloc ar _):p:=h
theorem gG(h:p:=by unfold Addr.add;split<;>simp_all):p:=h
theorem gI(h:p:=by exact((N.uE _ 201 vM _ ar).alloc _).grown hg3 ar):p:=h
theorem gJ(h:p:=by exact List.length_pos_iff.2 h0):p:=h
theorem gK(h:p:=by exact fun o1 o2=>((Below.refl _ _).alloc (Nat.le_refl _) _).alloc ar _):p:=h
theorem gL(h:p:=by simpa using h0):p:=h
theorem gM(h:p:=by rw[hn.out];exact aA):p:=h
theorem gN(h:p:=by simpa using HE5.out):p:=h
theorem gO(h:p:=by exact((B0.alloc _).alloc _).grown hg3 aB):p:=h
theorem gP(h:p:=by exact J (fun W=>by obtain⟨A1,c1,A2,c2,A3,c3,rfl,_⟩:=h;exact JC ..)):p:=h
theorem gQ(h:p:=by exact((N.new w _ h.uY).alloc _).G b1 aB):p:=h
theorem gS(h:p:=by exact uJ.Ce (v':=v5) hE oq4 S5 o5):p:=h
theorem gT(h:p:=by exact rE ((Below.refl _ _).alloc (Nat.le_refl _) _) hg4 ar (Nat.le_refl _)):p:=h
theorem gU(h:p:=by simpa[Hd.ok,and_assoc]using O):p:=h
theorem gV(h:p:=by exact hW▸below_drewN (Below.refl _ _) _):p:=h
theorem gX(h:p:=by exact kb.grown hg kb.size (fun k O=>by simp[Value.ownBlock]at O;omega)):p:=h
theorem gY(h:p:=by obtain⟨css,ho5,_⟩:=HOz.out;exact rZ.own ho5 K g8):p:=h
theorem gZ(h:p:=by exact rE HB hg6 HB.size Y):p:=h
theorem ic(h:p:=by exact(((Below.refl _ _).alloc (Nat.le_refl _) _).alloc ar _).alloc aB _):p:=h
theorem ie(h:p:=by first|exact B8|exact Bj B8 cR):p:=h
theorem ig(h:p:=by exact(rJ.G (R':=sG w0 w4) HOH.out ah7 (fun _ _ x=>x.G ah7)).rM (fun _ x=>k.own x bV) (fun _ _ x=>x.fr k)):p:=h
theorem ij(h:p:=by rw[List.length_map,h5.ln]):p:=h
theorem ik(h:p:=by exact fun V=>⟨none,0,none,0,none,0,I,fun h=>absurd h K,fun h=>absurd h K,fun h=>absurd h K,K,K,K⟩):p:=h
theorem il(h:p:=by exact⟨aiW.grown hg6 ar,aiV.grown hg6 ar⟩):p:=h
theorem im(h:p:=by unfold xQ;rw[O];rfl):p:=h
theorem io(h:p:=by rw[IntKind.wrap_u64];exact Int.emod_eq_of_lt Y Y):p:=h
theorem ir(h:p:=by obtain⟨_,_,_,_,_,_,rfl,hr,_⟩:=hR;rfl):p:=h
theorem iu(h:p:=by simpa using he):p:=h
theorem iw(h:p:=by simpa using h6):p:=h
theorem ix(h:p:=by exact(Below.refl _ _).drew):p:=h
theorem iy(h:p:=by unfold Dt;rw[O];rfl):p:=h
theorem iz(h:p:=by unfold wT;rw[O];rfl):p:=h
theorem iA(h:p:=by simp[r.ad.rY h.1]):p:=h
theorem iB(h:p:=by exact(rC HH1.out HH1.out.size ah7).trans ⟨G6.os,G6.tape,G6.output,G6.size,fun i hi=>G6.block i fg aB⟩):p:=h
theorem iC(h:p:=by exact J ((HQa.out.sD gb Pa K).rM (R':=QI wb) (fun _ x=>x) (fun _ _ ⟨v,e,n⟩=>⟨v,e,n.rM Kb⟩))):p:=h
theorem iD(h:p:=by simpa using hck):p:=h
theorem iE(h:p:=by exact hW▸below_drewN HX _):p:=h
theorem iF(h:p:=by exact⟨⟨T,_,_,HK.out,HRO.out,HQ.out,HG.out▸HPT.out⟩,HXS.out,HBA.out,h7,h8,h9,HRS.out⟩):p:=h
theorem iG(h:p:=by exact(O5.out.JG HO5.out K g6).rM (R':=sG w0 wb) (fun _ x=>x) (fun _ _ x=>x.agl O5.out K g6)):p:=h
theorem iH(h:p:=by simpa using hx):p:=h
theorem iI(h:p:=by simpa using hc):p:=h
theorem iJ(h:p:=by simpa using U):p:=h
theorem iK(h:p:=by exact rE (HBr.alloc HBr.size _) hg3 cC HBr.size):p:=h
theorem iL(h:p:=by exact J (fun V hV=>uN (rN re hV (Nat.lt_of_lt_of_le hbk hwr)) underlying67 I eD)):p:=h
theorem iM(h:p:=by exact N.grown R5 g6 aB):p:=h
theorem iN(h:p:=by exact fun i hi=>(hD9 i hi).imp id (fun h=>by omega)):p:=h
theorem iO(h:p:=by exact rE akk hg6 akk.size Y):p:=h
theorem iP(h:p:=by exact(Q7.JG HO7.out K g8).rM (R':=sG w0 w8) (fun _ x=>x) (fun _ _ x=>x.agl Q7 K g8)):p:=h
theorem iQ(h:p:=by exact ui R4 ow2 K g5):p:=h
theorem iR(h:p:=by rw[e23]at d23;injection d23 with d23;injection d23 with d23;exact d23.symm):p:=h
theorem iS(h:p:=by exact hW▸below_drewN hB nq):p:=h
theorem iT(h:p:=by exact J (fun V hV=>(B1.G hV B1.lt).tW 67 0 18 Y _ underlying67 I uq _ HCA.out)):p:=h
theorem iU(h:p:=by exact Oa.rM (R':=QI wa) (fun _ x=>x) (fun _ _ ⟨v,e,n⟩=>⟨v,e,n.rM Ka⟩)):p:=h
theorem iV(h:p:=by simpa using hn):p:=h
theorem iW(h:p:=by exact HB2.trans (Kr.1.mono HB2.size)):p:=h
theorem iX(h:p:=by exact rO (r5 HW _) (sd (World.grownBy.refl _ _) _ _) (.inl I)):p:=h
theorem iY(h:p:=by exact rO (zB G7 _) g8 (.inr (fun k O=>by injection O with O;omega))):p:=h
theorem iZ(h:p:=by exact(rJ.OM (p:=Fq) T4 g5 bV (.inr I)).mono (fun i ⟨x,y⟩=>⟨Y,y⟩)):p:=h
theorem ja(h:p:=by rw[<-LS.out];simpa only[sg.Ze,List.append_assoc]using hb4):p:=h
theorem jc(h:p:=by exact J (by rw[FS.out,if_neg (by rw[HOK.out];simp),List.append_nil];exact HLO.out)):p:=h
theorem jd(h:p:=by exact fun o1 o2 o3=>(((Below.refl _ _).alloc (Nat.le_refl _) _).alloc ar _).alloc aB _):p:=h
theorem je(h:p:=by exact decide_eq_false Y):p:=h
theorem jf(h:p:=by exact J (O8'.rM (fun _ x=>tY x g9 S8.o K) (fun _ _ x=>x.YA g9 S8.o K))):p:=h
theorem jg(h:p:=by exact J (HO8.rM (fun _ x=>tY x g9 S8.o K) (fun _ _ x=>x.YA g9 S8.o K))):p:=h
theorem jh(h:p:=by exact J (HO6.rM (fun _ x=>tY x g7 S6.o K) (fun _ _ x=>x.YA g7 S6.o K))):p:=h
theorem ji(h:p:=by exact⟨_,J I⟩):p:=h
theorem jj(h:p:=by exact(N.uE (w.alloc (.cells sV.toArray 169)) 37 [.int .i64 0] _ ar).G b1 ar):p:=h
theorem jk(h:p:=by exact J (fun V hV=>rQ underlying3 I ((B1.G hV B1.lt).rD 18 p18))):p:=h
theorem jl(h:p:=by exact H5.grown g6 H5.size O5.base):p:=h
theorem jm(h:p:=by exact rE ((Below.refl _ _).alloc (Nat.le_refl _) _) g3 ar (Nat.le_refl _)):p:=h
theorem jn(h:p:=by simpa[World.setCell]using hs3):p:=h
theorem jo(h:p:=by simpa[Value.ownBlock]using O):p:=h
theorem jp(h:p:=by simpa[Value.ownBlock]using he):p:=h
theorem jq(h:p:=by rw[hce];exact sg.tm _):p:=h
theorem jr(h:p:=by unfold sg.check;rw[if_neg hf,if_pos h6,if_pos (.inr hz2)]):p:=h
theorem js(h:p:=by obtain⟨css,ho5,_⟩:=HQz.out;exact rZ.own ho5 K ga):p:=h
theorem jt(h:p:=by exact sd (World.grownBy.refl _ _) _ _):p:=h
theorem ju(h:p:=by exact List.take_of_length_le (Nat.le_refl _)):p:=h
theorem jv(h:p:=by unfold sg.check;rw[if_neg hf,if_pos h6,if_pos (.inl hz)]):p:=h
theorem jw(h:p:=by exact J (fun V hV=>rN hes (rC HW0.out HW0.out.size hV) hbw)):p:=h
theorem jx(h:p:=by exact hW▸h2.drewN _):p:=h
theorem jy(h:p:=by simpa using hz):p:=h
theorem jz(h:p:=by simpa using B3):p:=h
theorem jA(h:p:=by rw[hr];exact⟨I,I⟩):p:=h
theorem jB(h:p:=by exact⟨_,I,HIP.out,rJ.G (R':=Ii w0) N6 K7 (fun _ _ x=>x)⟩):p:=h
theorem jC(h:p:=by exact rC bi aB b1):p:=h
theorem jD(h:p:=by exact Oa.rM (fun _ x=>abH x G5 apb) (fun _ _ x=>x.YA G5 Ga K)):p:=h
theorem jE(h:p:=by obtain⟨m,hm⟩:=k1;exact DataW.trod_lt m _ _ _ hm):p:=h
theorem jF(h:p:=by obtain⟨m,hm⟩:=k0;exact DataW.trod_lt m _ _ _ hm):p:=h
theorem jG(h:p:=by obtain⟨Ax,cx,aAO⟩:=hxs.1.form;rw[aAO];rfl):p:=h
theorem jH(h:p:=by unfold sg.check;rw[if_neg hf,if_pos h6,if_neg Y]):p:=h
theorem jI(h:p:=by simp[hdl]):p:=h
theorem jJ(h:p:=by exact hf 1 _ I):p:=h
theorem jK(h:p:=by exact hf 0 _ I):p:=h
theorem jL(h:p:=by exact hW▸k1.drewN nq):p:=h
theorem jM(h:p:=by exact hW▸k0.drewN nq):p:=h
theorem jN(h:p:=by exact fun _ _ _ _=>rfl):p:=h
theorem jO(h:p:=by exact J I):p:=h
theorem jP(h:p:=by rw[<-ajw];simp;omega):p:=h
theorem jQ(h:p:=by rw[<-hM];simp):p:=h
theorem jR(h:p:=by unfold xn;rw[if_pos h];simp[PV,tP]):p:=h
theorem jS(h:p:=by rw[hcc,List.drop_zero];exact List.take_left' hLa):p:=h
theorem jT(h:p:=by exact(Dj (x:={x with left:=x.left-1}) hd).trans hr.symm):p:=h
theorem jU(h:p:=by rw[F.hcs];rfl):p:=h
theorem jV(h:p:=by rw[<-hX];exact(N.uE _ _ _ _ ar).alloc _):p:=h
theorem jW(h:p:=by exact J (HO3.out.rM (fun _ x=>k7.own x bV) (fun _ _ x=>x))):p:=h
theorem jX(h:p:=by simpa using aA):p:=h
theorem jY(h:p:=by simpa using he0):p:=h
theorem jZ(h:p:=by simp[Cw]):p:=h
theorem j3(h:p:=by rw[hS];decide):p:=h
theorem j4(h:p:=by exact hW▸wI (sd (World.grownBy.refl _ _) 28 _)):p:=h
theorem j8(h:p:=by exact(hB.cell (p:=⟨ba,oa+k,none⟩) la).trans (xa k aA)):p:=h
theorem j9(h:p:=by unfold ug Ky Hd.ok;simp[U,F,Hd.zero]):p:=h
theorem kc(h:p:=by rw[<-HO.out,Nat.sub_self];exact WG):p:=h
theorem ke(h:p:=by exact rC (w:=w4.drew) (below_drewN HB' 1) HB'.size b5):p:=h
theorem kg(h:p:=by exact(b24.cell (p:=⟨g,23,none⟩) K2.out.1.lt).trans d23):p:=h
theorem kh(h:p:=by simpa using h4):p:=h
theorem ki(h:p:=by simp;exact h0):p:=h
theorem kj(h:p:=by exact xN (x.Nu hx)):p:=h
theorem kl(h:p:=by unfold sg.check;rw[if_neg hf,if_neg h6]):p:=h
theorem km(h:p:=by simp[uz]):p:=h
theorem ko(h:p:=by simp[hcl]):p:=h
theorem kp(h:p:=by exact Qo hL hwf):p:=h
theorem ks(h:p:=by simp[maxLen];omega):p:=h
theorem kt(h:p:=by exact IntWalk.i64_in _ Y):p:=h
theorem ku(h:p:=by rw[<-Ix,List.take_append_drop]):p:=h
theorem kw(h:p:=by rw[List.length_append,rL,hB]):p:=h
theorem kx(h:p:=by rw[List.length_append,rL,hA]):p:=h
theorem ky(h:p:=by exact Fr.grown g7 K3d.1 bV ⟨Y,_,_,K3d.1,.inl I⟩):p:=h
theorem kB(h:p:=by simpa using(congrArg Prod.fst ha).symm):p:=h
theorem kC(h:p:=by rw[<-hLa.out];exact Io af0 ..):p:=h
theorem kD(h:p:=by rw[MQ,List.length_take];omega):p:=h
theorem kE(h:p:=by exact hW▸(js2 hpl O (.int .u8 (a.toNat:Int))).drew):p:=h
theorem kF(h:p:=by rw[<-hX];exact N.uE _ _ _ _ ar):p:=h
theorem kG(h:p:=by rw[hz];rfl):p:=h
theorem kH(h:p:=by exact decide_eq_false hz):p:=h
theorem kI(h:p:=by exact O8.rM (fun _ x=>x) (fun _ _ x=>x.own O7 g8)):p:=h
theorem kJ(h:p:=by exact J (fun k O=>MK.r _ cF)):p:=h
theorem kK(h:p:=by exact Fr.grown g7 K5.1 bV ⟨Y,_,_,K5.1,.inl I⟩):p:=h
theorem kL(h:p:=by exact run_eqGuard_agg w _ _ _ _ _ _ Tryz.eqGuardType67):p:=h
theorem kM(h:p:=by exact hW▸tV.drew _ _ (tV.set O 28 _ _ _ hc)):p:=h
theorem kN(h:p:=by exact List.take_of_length_le Y):p:=h
theorem kO(h:p:=by simp at hi;omega):p:=h
theorem kP(h:p:=by rw[hce];exact sg.rY _ rB):p:=h
theorem kQ(h:p:=by exact Bd):p:=h
theorem kR(h:p:=by exact J (fun W=>by rw[hce];exact MS.out _ rB W)):p:=h
theorem kS(h:p:=by exact Fr.uP (Fr.G ((Below.refl _ _).drew)) k6):p:=h
theorem kT(h:p:=by simpa[Addr.add]using NG h00):p:=h
theorem kU(h:p:=by rw[hcs];exact z8 _ _ _ _ _):p:=h
theorem kV(h:p:=by exact J (K1.out.trans ((sR.G hbz).mono hw1))):p:=h
theorem kW(h:p:=by rw[<-hn.out,List.take_length]):p:=h
theorem kX(h:p:=by rw[isv];exact VL hst.ips _):p:=h
theorem kY(h:p:=by rw[hL,hr];rfl):p:=h
theorem kZ(h:p:=by exact List.length_eq_zero_iff.1 (by simpa using E)):p:=h
theorem ld(h:p:=by exact Fr.grown G6 K4.1 bV ⟨Y,_,_,K4.1,I⟩):p:=h
theorem lf(h:p:=by unfold sg.check;rw[if_pos hf]):p:=h
theorem lh(h:p:=by exact run_equalIn_int w 9998 _ _ _ _ _ underlying3):p:=h
theorem lj(h:p:=by simpa using hty):p:=h
theorem lk(h:p:=by simpa using hin):p:=h
theorem lm(h:p:=by simpa using B11):p:=h
theorem lr(h:p:=by simpa[Value.ownBlock]using hv):p:=h
theorem lx(h:p:=by unfold sf;rw[U,F];rfl):p:=h
theorem ly(h:p:=by rw[hv5];exact⟨I,I⟩):p:=h
theorem lz(h:p:=by rw[h.hcs];exact xV h.ip):p:=h
theorem lC(h:p:=by exact DP (P:=prog) (i:=1) ama aN aN):p:=h
theorem lD(h:p:=by exact DP (P:=prog) (i:=0) ama aN aN):p:=h
theorem lE(h:p:=by exact hf 2 _ I):p:=h
theorem lF(h:p:=by exact fun h=>hl (List.length_eq_zero_iff.1 h)):p:=h
theorem lG(h:p:=by exact fun c=>e (key_inj ha' ha (c▸hl') E)):p:=h
theorem lH(h:p:=by exact((N.new w 169 sV).alloc _).G b1 aB):p:=h
theorem lI(h:p:=by simpa using hs):p:=h
theorem lJ(h:p:=by simpa using hf):p:=h
theorem lK(h:p:=by simpa using h3):p:=h
theorem lM(h:p:=by rw[Nat.mul_add,Nat.mul_one]):p:=h
theorem lO(h:p:=by rcases h with h|h<;>omega):p:=h
theorem lP(h:p:=by unfold ug;simp[vw,hq]):p:=h
theorem lQ(h:p:=by rw[<-hgq.out];exact hwr):p:=h
theorem lR(h:p:=by rw[hvt];rfl):p:=h
theorem lS(h:p:=by rw[hcl];rfl):p:=h
theorem lT(h:p:=by rw[hce];exact Df rB):p:=h
theorem lU(h:p:=by rw[tP];exact hs'):p:=h
theorem lV(h:p:=by exact hwz▸below_drewN (Below.refl _ _) nq):p:=h
theorem lW(h:p:=by rw[hcs];exact uu hr):p:=h
theorem lX(h:p:=by exact rJ.G HO4.out k5 (fun _ _ x=>x)):p:=h
theorem lY(h:p:=by unfold ya tT;simp):p:=h
theorem lZ(h:p:=by rw[hce];exact acw _):p:=h
theorem l9(h:p:=by rw[hS];rfl):p:=h
theorem mc(h:p:=by rw[U];rfl):p:=h
theorem mf(h:p:=by simp[ug]at hi;omega):p:=h
theorem mg(h:p:=by rw[HQ.out,tP]):p:=h
theorem mh(h:p:=by exact J (fun h=>by rw[HR.out,h];rfl)):p:=h
theorem mi(h:p:=by simp[Ny]at h;omega):p:=h
theorem mj(h:p:=by exact⟨rJ.wF T4 K4.1 K g5,K4.2⟩):p:=h
theorem mn(h:p:=by have:=hmn.out;omega):p:=h
theorem mo(h:p:=by exact Va HG.out (Nx U HC.out)):p:=h
theorem mr(h:p:=by exact tH (M:=zR) (n:=19) fj K):p:=h
theorem ms(h:p:=by exact a1.c 3 I):p:=h
theorem mw(h:p:=by
 go_wp2_with(first
  |(refine rF (.load 201 (.tmp 12)) rfl ?_;go_must(refine rG rfl _ _ rfl (w.heap.size+1) 0 rfl B2 33 Y _ underlying201 rfl ta L (uH Y) ?_))
  |(refine rF (.store 201 (.tmp 10) (.tmp 79)) rfl (ab rfl w.heap.size 0 L A2 a7 bE l1.out ?_)))
 intro w3 hb3 hg3 _;rw[List.drop_of_length_le a7,List.append_nil]at hb3;have S3:=rZ.sD hg3 A2 K;have HB3:=rE HB2 hg3 HB2.size (Nat.le_refl _);clear hg3 A2 B2 HB2;go_wp2_with fail;refine tj I w.heap.size I hb3 _ underlying201 I bE I (.int .i64 0) I ?_;exact⟨L,I,OW.out _ S3,HB3⟩
 ):p:=h
theorem mx(h:p:=by
 go_wp2_with(first
  |(refine rF (.load 201 (.tmp 76)) rfl ?_;go_must(refine sr rfl 201 (.tmp 76) rfl ba (oa+k*33) rfl ck hRk _ underlying201 rfl bZ ?_))
  |(refine rF (.store 201 (.tmp 17) (.tmp 77)) rfl (ab rfl wr.heap.size 0 ck (N.uE _ _ vM _ ar) a7 bZ ck1.out ?_)))
 intro w4 hb4 hg4 hs4;rw[List.drop_of_length_le a7,List.append_nil]at hb4;have bo:ao wr w4:=gT;have W4:=Wr.G bo;have K4:=Kr.trans (tC.Bc bo rH);have HB4:=rC HBr HBr.size bo;have aif:=Nat.le_trans rH bo.size;clear hg4 hs4 hRk HBr bo Wr Kr rH;go_wp2_with(refine rF (.load 201 (.tmp 17)) I ?_;go_must(refine rG I _ _ I wr.heap.size 0 I hb4 33 Y _ underlying201 I ta ck (uH Y) ?_));refine(RC.out _ W4 HB4 aif).mono ?_;rintro _ w5 ⟨rfl,W5,K5⟩;have K5':=K4.trans K5;clear RC hb4 W4 K4 HB4 aif K5;have RM:=J (fun E=>Qe w2.heap.size gw sn.1 p sn.2 0 w5 W5 E);by_cases h5:65535<sn.1.length
 ·obtain⟨rfl,rfl⟩:=RL.out (Nat.lt_of_lt_of_le h5 LN.out);have RM':=J (RM.out amd);rw[if_pos ⟨I,h5⟩]at RM';clear RM amd;go_wp2_with fail;refine RM'.out.mono ?_;rintro _ w6 ⟨rfl,rfl⟩;clear RM' h5 LN ST;go_wp2_with fail;go_ret2;exact rW.mk I (HB2.trans (K5'.1.mono HB2.size))
 ·
  have RM':=J (RM.out Y);rw[if_neg (fun h=>h5 h.2)]at RM';clear RM;go_wp2_with fail;refine RM'.out.mono ?_;rintro _ w6 ⟨rfl,rfl⟩;clear RM' LN;go_wp2_with fail;go_roundw
  case rel=>exact⟨k+1,Y,fQ,by rw[HSN.out];omega,by rw[HSN.out];exact W5,K5'⟩
  case measure=>simp[intOf];omega
 ):p:=h
theorem my(h:p:=by
 go_wp2_with fail;refine leaves_cons (f:=175) (args:= #[.pointer (some ⟨w.heap.size,0,none⟩),.pointer (some ⟨w.heap.size+1,0,none⟩)]) ar aR ?_;refine(Xa w.heap.size _ (z8 _ _ _ _ _) _ _ _ M3 E3).mono ?_;rintro e u' w4 ⟨rfl,rfl,c0,c1,k4⟩;have b4:=b3.trans k4;simp only[settle];refine DW I I c0 I c1 ?_;exact⟨NE.out _ I,I,b4⟩
 ):p:=h
theorem mz(h:p:=by
 go_wp2_with(first
  |(refine rF (.load 201 (.tmp 66)) rfl ?_;go_must(refine sr rfl 201 (.tmp 66) rfl ba (oa+k*33) rfl ck hRk _ underlying201 rfl bZ ?_))
  |(refine rF (.store 201 (.tmp 12) (.tmp 67)) rfl (ab rfl wr.heap.size 0 ck (N.uE _ _ vM _ ar) a7 bZ ck1.out ?_)))
 intro w3 hb3 hg3 hs3;rw[List.drop_of_length_le a7,List.append_nil]at hb3;have HB3:ao w w3:=iK;clear hg3 hs3 hRk HBr;go_wp2_with(refine rF (.load 201 (.tmp 12)) I ?_;go_must(refine rG I _ _ I wr.heap.size 0 I hb3 33 Y _ underlying201 I ta ck (uH Y) ?_));refine(CK.out _ HB3).mono ?_;rintro _ w4 ⟨rfl,b4⟩;have HB4:=rC HB3 HB3.size b4;clear CK hb3 b4 HB3;by_cases he0:ek=0
 ·
  subst he0;go_wp2_with fail;go_roundw
  case rel=>exact⟨k+1,Y,fQ,J (HJ2.out trivial),HB4⟩
  case measure=>simp[intOf];omega
 ·have e1:(ek !=0)=true:=jY;have e2:=FK.out he0;subst e2;have hr0:=HEX.out.trans (if_pos he0);subst hr0;clear HEX FK HJ2 he0;go_wp2_with fail;go_ret;exact rW.mk I HB4
 ):p:=h
theorem mC(h:p:=by
 generalize e.fr.cells=fc,y.sv.cells=sc at*;go_enter func151,ntmps151;go_wp2_with(first
  |(refine rF (.load 67 (.tmp 10)) rfl ?_;go_must(refine vR 67 (.tmp 10) rfl bc (w.heap.size+1) 1 rfl B3 18 Y _ underlying67 rfl EY _ SE.out ?_))
  |(refine rF (.load 67 (.tmp 12)) rfl ?_;go_must(refine vR 67 (.tmp 12) rfl bc w.heap.size 0 rfl B2 18 Y _ underlying67 rfl EY _ SQ.out ?_))
  |(refine rF (.store 169 (.tmp 4) (.tmp 28)) rfl (ab rfl (w.heap.size+1+1) 0 sV B4 cR tn Cv ?_)))
 intro w8 B8 g8 _;replace B8:N w8 (w.heap.size+1+1) 169 sV:=ie;have HB8:=rE HB g8 HB.size Y;clear g8 HB B4;go_wp2_with fail;refine tj I (w.heap.size+1+1) I B8 _ underlying169 I tn I (.bool false) I ?_;rw[HF.out];exact⟨sV,I,sA.zero _,HB8⟩
 ):p:=h
theorem mD(h:p:=by
 clear hS M4 M3 E3 C3 b3 kn ow hE ow2 Bn hrg oq4 oq3 b4 R3 R4 E4 C4 hr5 o5 g5 S5 q5 M5 R5 E5 C5 b5 g6 g3 QC hcl;go_wp2_with fail;go_roundw
 case rel=>exact⟨k+1,acc++[q],p',_,Y,fQ,J cH,M6,q6,R6,l3,E6,C6,b6,HO1⟩
 case measure=>simp[intOf];omega
 ):p:=h
theorem mE(h:p:=by
 go_wp2_with(refine rF (.store 201 (.tmp 10) (.tmp 77)) I (ab I w.heap.size 0 vM A2 a7 bG Ih ?_));intro w3 hb3 hg3 _;rw[List.drop_of_length_le a7,List.append_nil]at hb3;have HB3:=rE HB2 hg3 HB2.size (Nat.le_refl _);clear hg3 A2 HB2;go_wp2_with fail;refine tj I w.heap.size I hb3 _ underlying201 I bG I (.int .i64 x) I ?_;exact⟨hx,I,HB3⟩
 ):p:=h
theorem mF(h:p:=by
 intro w6 hb6 hg6 hs6;rw[List.drop_of_length_le a7,List.append_nil]at hb6;have HB6:ao w w6:=gZ;clear hg6;go_wp2_with fail;refine tj I (w.heap.size+1) I hb6 _ underlying201 I bd I _ I ?_;exact rW.mk I HB6
 ):p:=h
theorem mG(h:p:=by
 have h1:¬(k:Int)<l.length:=Y;go_wp2_with fail;go_ret;refine⟨_,I,?_,hB⟩;rw[List.take_of_length_le Y]at ho hle;rw[List.take_of_length_le Y,EM hle];exact ho
 ):p:=h
theorem mH(h:p:=by
 intro v' w4 O4 g4;have H4:=(rC H2 H2.size K3).grown g4 bU O3.base;clear g4 K3 O3 O2 N3 B2 H2;go_wp2_with fail;go_roundw
 case rel=>exact⟨k+1,Y,fQ,by rw[FS.out];exact O4,by rw[FS.out];simp;omega,H4⟩
 case measure=>simp[intOf];omega
 ):p:=h
theorem mI(h:p:=by
 generalize sq n=ls at*;by_cases h3:255<1+ls
 ·have h3':(255:Int)<1+(ls:Int):=Y;rw[if_pos h3]at HR;clear h3;go_wp2_with fail;refine DS1.out.mono ?_;rintro _ B ⟨rfl,rfl⟩;go_wp2_with fail;go_ret3;rw[HR.out];exact⟨I,hB⟩
 ·have h3':¬(255:Int)<1+(ls:Int):=Y;rw[if_neg h3]at HR;clear h3;go_wp2_with fail;refine DS1.out.mono ?_;rintro _ B ⟨rfl,rfl⟩;go_wp2_with fail;go_ret3;rw[HR.out];exact⟨_,I,HTT.out,hB⟩
 ):p:=h
theorem mJ(h:p:=by
 go_wp2_with fail;go_ret;exact rW.mk (wv HR.out.symm) ((Below.refl _ _).alloc (Nat.le_refl _) _)
 ):p:=h
theorem mK(h:p:=by
 go_wp2_with(at_builtin;go_must(refine tQ _ I (.tmp 23) (.tmp 25) 101 I 5 (.int .u8 0) 1 1 underlying101 xf I K w.heap.size _ k _ I (World.ownsRow.alloc Z _) aS ⟨wr.heap.size,0,none⟩ 1 1 [.int .u8 ((l[k].toNat:Int))] I I (vJ _ _ _ _ I) (uA I) K aL Y ?_));intro g2 ahd w2 hb2 afp ahg;have hB2:=sX (hB.alloc hB.size _) aS (Z.alloc _) afp;have hb3:w2.ownsRow w.heap.size 5 1 (.slice (some ⟨g2,0,none⟩) (k+1) ahd) (k+1) (sN (vF (l.take (k+1)))):=by
  have e:sN (vF (l.take (k+1)))=sN (vF (l.take k))++[.int .u8 ((l[k].toNat:Int))]:=by rw[List.take_succ_eq_append_getElem aA];simp only[vF,List.map_append,xL,List.map_cons,List.map_nil,Mn];rw[HX.out]
  rw[e];exact hb2
 clear Z hb2 afp hB;go_wp2_with fail;go_roundw
 case rel=>exact⟨k+1,Y,fQ,hb3,hB2⟩
 case measure=>simp[intOf];omega
 ):p:=h
theorem mL(h:p:=by
 go_wp2_with fail;go_roundw
 case rel=>exact⟨k+1,Y,fQ,by rw[FS.out];exact O4,by rw[FS.out];simp;omega,H4⟩
 case measure=>simp[intOf];omega
 ):p:=h
theorem mM(h:p:=by
 intro v8 w8 Q8 g8;have S8:=S7.own Q7 K g8;have HO8:rJ w8 w.heap.size 74 19 (sG w0 w8) hv E:=iP;have HP8:=Q7.JG HP7.out K g8;obtain⟨A8,c8,hv8⟩:=Q8.form;subst hv8;clear S7 Q7 K7 g8 ne7 akI d12 B5 S5 Q5 HO7 HP7 HO5 HP5 HS5 HQ5 e0 e1 e2;go_wp2_with(refine rF (.store 31 (.tmp 143) (.tmp 142)) I (af I gx 12 (.slice A8 (lo++[x]).length c8) S8.o fA agk ?_));intro w9 B9 g9 sw;clear sw;have S9:=J (S8.put (OC':=R10++[hv,sv,Value.slice A8 (lo++[x]).length c8]) g9 fB);have Q9:=J (Q8.sD g9 S8.o K);have HO9:Hid (rJ w9 w.heap.size 74 19 (sG w0 w9) hv E):=jg;have HP9:=J (HP8.sD g9 S8.o K);have aBf:(lo++[x]).length<=k+1:=aB;clear B9 g9 S8 Q8 HO8 HP8;go_wp2_with fail;go_roundw
 case rel=>exact⟨k+1,_,_,Y,fQ,Q9.out,aBf,S9.out,HO9,HP9⟩
 case measure=>simp[intOf];omega
 ):p:=h
theorem mO(h:p:=by
 unfold vG at KB3;go_wp2_with(refine rF (.load 50 (.tmp 5)) I ?_;go_must(refine rG I _ _ I w2.heap.size 0 I Y3 4 (Nat.le_refl 4) _ underlying50 I vE _ I ?_));refine KB3.out.mono ?_;rintro _ w4 ⟨v4,rfl,o4,hO4,hl4,hK4,hw4,hq⟩;have O4:=J (sR.ous (lo':=0) hK4 O3.out);have HO4:=J hO4;have HQ:=J hq;have aif:lo<=w4.heap.size:=Y;have hoo:o0.length+o4.length<=100000:=Y;obtain⟨A4,c4,rfl,-,-⟩:=hO4.form;clear KB3 hO4 hq O3;go_wp2_with(at_builtin;go_must(refine uw _ I (.tmp 27) (.tmp 30) I I I O4.out HO4.out aif hoo ?_));intro v' w5 ho5 hf5;have HX:=J (HQ.out v' w5 ho5 (hf5.mono (fun i hi=>(O4.out.Fg (p:=Dy) I i hi))));obtain⟨A5,c5,rfl,-,-⟩:=ho5.form;clear ho5 hf5 HQ O4 HO4;go_wp2_with fail;go_ret;exact⟨_,I,HX.out⟩
 ):p:=h
theorem mP(h:p:=by
 rw[hpk]at FS;have HP:=J hpk;clear hpk;go_wp2_with fail;go_roundw
 case rel=>exact⟨k+1,Y,fQ,by rw[FS.out];simpa using O2,by rw[FS.out];simpa using hle,H2⟩
 case measure=>simp[intOf];omega
 ):p:=h
theorem mQ(h:p:=by
 clear hn hd;obtain⟨k1,k2,k3,k4,k5,hs0⟩:=WX (m:=m) (a:=a) n n I Y;obtain⟨W,HW,B10,B12,HB,hWs⟩:=FJ w;go_enter func186,ntmps186;go_wp2_with fail;rw[HW.out];refine(al.out W).mono ?_;rintro _ B ⟨rfl,rfl⟩;clear al HW;go_wp2_with fail;rw[List.take_take,Nat.min_self];refine(GA.out (w.heap.size+1) W).mono ?_;rintro _ w2 ⟨rfl,rfl⟩;have A2:=B10;have HB2:=HB;clear B12 B10 HB GA;go_wp2_with(refine rF (.store 201 (.tmp 10) (.tmp 77)) I (ab I w.heap.size 0 vM A2 a7 bG Ih ?_));intro w3 hb3 hg3 _;rw[List.drop_of_length_le a7,List.append_nil]at hb3;have HB3:=rE HB2 hg3 HB2.size (Nat.le_refl _);clear hg3 A2 HB2;go_wp2_with fail;refine tj I w.heap.size I hb3 _ underlying201 I bG I (.int .i64 5) I ?_;exact⟨hx,I,HB3⟩
 ):p:=h
theorem mR(h:p:=by
 rcases HT with rfl|⟨rfl,rfl⟩;all_goals
  go_enter func159,ntmps159;go_wp2_with fail;go_ret;exact rW.mk dz HX
 ):p:=h
theorem mS(h:p:=by
 intro v8 w8 O8 g8;have S8:=S7.own O7 K g8;have O8':rJ w8 w.heap.size 74 19 (sG w0 w8) v8 (lo++[wh hh]):=kI;obtain⟨A8,c8,hv8⟩:=O8'.form;subst hv8;clear S7 O7 N7 K7 O8 g8 ne7 akI d10 d18 HB6 B6 HS6 HO6 O6 S6 N6 HES E2 E3;go_wp2_with(refine rF (.store 22 (.tmp 56) (.tmp 55)) I (af I gx 10 (.slice A8 (lo++[wh hh]).length c8) S8.o fA agj ?_));intro w9 B9 g9 sw;clear sw;have S9:=J (S8.put (OC':=R10++[Value.slice A8 (lo++[wh hh]).length c8,rI,rI]) g9 fB);have O9:Hid (rJ w9 w.heap.size 74 19 (sG w0 w9) (.slice A8 (lo++[wh hh]).length c8) (lo++[wh hh])):=jf;clear B9 g9 S8 O8';go_wp2_with fail;go_roundw
 case rel=>exact⟨k+1,_,_,Y,fQ,O9.out,FS1,S9.out⟩
 case measure=>simp[intOf];omega
 ):p:=h
theorem mT(h:p:=by
 have hgl:=D3.lt;have HD:=J (And.intro D1 (And.intro D2 (And.intro D3 (And.intro KO9 H9))));clear D1 D2 D3 KO9 H9;go_wp2_with fail;all_goals
  go_meet
  case rel=>obtain⟨D1,D2,D3,KO9,H9⟩:=HD.out;exact⟨KO9.sD (sU _ _ _ _) D3 K,D1.wZ arQ _,D2.wZ arP _,D3.agO Y I,rE H9 (sU _ _ _ _) H9.size hb3⟩
 ):p:=h
theorem mU(h:p:=by
 go_enter func145,ntmps145;go_wp2_with fail;go_quiet(fail);obtain⟨W,hW⟩:∃W,W=(w.alloc (.cells es.toArray 69)).drewN nq:=gh;rw[<-hW];have HW:ao w W:=iE;have EW:N W w.heap.size 69 es:=jx;have JW:=hJ.G HW;clear hW c18 c24 d20 h2 hJ HX;obtain⟨vn,L,ds,hbk,hL,_,_,_,_,_,c23,c24,c25,_⟩:=JW.sD;have a23:=hbk.rD 23 c23;have a24:=hbk.rD 24 c24;have a25:=hbk.rD 25 c25;have f24:=hbk.frozen 24;have f25:=hbk.frozen 25;have hgl:=hbk.lt;have d0:=EW.rD 0 E0;have d21:=EW.rD 21 E21;clear c23 c24 c25 EW hbk hL;rw[hop]at a25;clear hop;go_wp2_with fail;go_ret;rw[HR2.out];exact⟨_,I,tf.nil _ _,⟨p,JW,HK.out⟩,r5 HW _⟩
 ):p:=h
theorem mV(h:p:=by
 go_wp2_with fail;go_ret;exact uQ.mk I I
 ):p:=h
theorem mW(h:p:=by
 have HE:=J (hR.out.symm.trans (adG HR.out));have hcv:=yz Z;by_cases h0:b=[]
 ·
  have h0':((b.length:Int)==0)=true:=by subst h0;rfl
  rw[if_pos h0]at HE;have h00:b.length=0:=fG;clear h0 hcv;go_wp2_with fail;go_ret3;exact rW.mk dY hB
 have hp:0<b.length:=gJ;have h0':((b.length:Int)==0)=false:=aB;rw[if_neg h0]at HE;clear h0;by_cases h6:63<b.length
 ·have h6':(63:Int)<b.length:=Y;rw[if_pos h6]at HE;clear h6 hcv;go_wp2_with fail;go_ret3;exact rW.mk dY hB
 ·have h6':¬(63:Int)<b.length:=Y;rw[if_neg h6,hrl]at HE;clear h6;go_wp2_with fail;go_ret3;exact rW.mk dY hB
 ):p:=h
theorem mX(h:p:=by
 go_wp2_with fail;refine(C.out).mono ?_;intro e1 w9 hx;have hx:=hx.back FW.out;obtain⟨v,D',rfl,hx2⟩:=hx;have HX:=J hx2;clear hx2 hx;go_wp2_with fail;go_ret;rw[HR2.out];exact⟨v,D',I,HX.out⟩
 ):p:=h
theorem mY(h:p:=by
 go_ret;exact uQ.mk I I
 ):p:=h
theorem mZ(h:p:=by
 go_wp2_with fail;refine DA.out.mono ?_;rintro _ _ ⟨rfl,rfl⟩;clear DA;go_wp2_with fail;refine RA.out.mono ?_;rintro _ w8 ⟨v8,rfl,hO8,b8⟩;have SN8:=J (SN.out w8 b8);have H8:=J (rC H7.out H7.out.size b8);have F0:=J (fun W=>ael 3 c1.r3 v8 c1.r2 W);clear RA SN H7 hO8 b8;go_wp2_with(refine rF (.field 50 (.tmp 71) 0) I ?_;go_must(refine zw (v:=.int .i64 3) bc (AO 50 (.tmp 71) 0 I I (F0.out _)) ?_));refine SN8.out.mono ?_;rintro _ _ ⟨rfl,rfl⟩;clear SN8;go_wp2_with fail;go_ret;exact rW.mk I H8.out
 ):p:=h
theorem m5(h:p:=by
 obtain⟨k,O,rfl,rfl⟩:=hrel;have Z:=vK n k;by_cases aA:k<n.length
 ·
  have h1:(k:Int)<n.length:=Y;obtain⟨b,off,rfl,_,xa⟩:=hA Y;have c1:=xa k aA;have S:=J (Fw n k aA);have hb2:=vK n (k+1);rw[S.out]at hb2;clear xa;go_wp2_with fail;go_round
  case rel=>exact⟨k+1,Y,fQ,by rw[S.out];go_num⟩
  case measure=>simp[intOf];omega
 ·have h1:¬(k:Int)<n.length:=Y;go_wp2_with fail;go_ret;exact uQ.mk (wv fL) I
 ):p:=h
theorem m6(h:p:=by
 obtain⟨A',c',rfl⟩:=tp F;unfold Oper.wp execOp;simp only[ho,resolve,invoke,builtin,Sem.run_bind,Sem.run_pure,Result.andThen_ok,List.map_toArray,List.map_cons,List.map_nil,hs,hx,hr];exact hK _ _ (h A' c' w' F h3)
 ):p:=h
theorem m7(h:p:=by
 have FS0:Hid (lo=(ss.take (k+1)).filter vH):=J (by
  have F:vH x=false:=by rw[HOK.out];have:(x.kd==1)=false/\(x.kd==2)=false/\(x.kd==3)=false:=⟨aB,aB,aB⟩;rw[this.1,this.2.1,this.2.2];rfl
  rw[FS.out,if_neg (by rw[F];decide),List.append_nil];exact rH.out)
 clear FS rH;go_wp2_with fail;go_roundw
 case rel=>exact⟨k+1,_,lo,Y,fQ,HSO.out,hle,FS0,HS3.out,HO⟩
 case measure=>simp[intOf];omega
 ):p:=h
theorem m8(h:p:=by
 go_wp2_with fail;refine(Od r _ Y).mono ?_;rintro e w6 ⟨rfl,b6⟩;go_wp2_with fail;refine(Ju g pre post [] r _ (j5.G b6) aB).mono ?_;rintro e w7 ⟨rfl,j7,g7⟩;go_wp2_with fail;go_ret;obtain⟨_,_,_,_,_,jb,_⟩:=j5.G b6;exact⟨_,I,by rw[E1.out,(tR _ hno).1,List.append_nil];exact(t5.G b6).grown g7 jb K,by rw[E2.out,(tR _ hno).2];exact j7,rO (tO f5 b6) g7 (.inl I)⟩
 ):p:=h
theorem m9(h:p:=by
 have hc:uf (ug q id e)=0:=by
  have hh:(ug q id e).hd.ok=true:=j9;have hqs:vw ((ug q id e).qs.map qE)=0:=lP;have ho:r8 NU=0:=K;have hrs:vw ((ug q id e).Em.map r8)=0:=by unfold ug tq.Em;cases e<;>simp[vw,ho]
  unfold uf;rw[if_neg (by rw[hh];decide),if_neg dL,if_neg (by rw[hqs];decide),hrs]
 have E:=adb q id e hN;unfold tM;rw[if_neg (by rw[hc];decide),if_neg Y]
 ):p:=h
theorem nb(h:p:=by
 clear B5 S5 Q5;go_wp2_with fail;go_roundw
 case rel=>exact⟨k+1,_,lo,Y,fQ,HQ5.out,Y,HS5.out,HO5,HP5⟩
 case measure=>simp[intOf];omega
 ):p:=h
theorem ng(h:p:=by
 have H8:=rE VH g8 VH.size F;go_wp2_with fail;refine tx I g3 I B8' _ underlying171 I dF I ?_;rw[h2.out];exact rW.mk I H8
 ):p:=h
theorem ni(h:p:=by
 go_wp2_with fail;go_ret;exact⟨false,I,ar,HB⟩
 ):p:=h
theorem nj(h:p:=by
 clear hS;go_wp2_with fail;refine tj I (w.heap.size+1) I hb6 _ underlying201 I bd I (.int .i64 e) I ?_;exact rW.mk I HB6
 ):p:=h
theorem np(h:p:=by
 clear hz S6 O6;go_wp2_with fail;go_roundw
 case rel=>exact⟨k+1,_,lo,Y,fQ,HO6.out,FS0,HS6.out⟩
 case measure=>simp[intOf];omega
 ):p:=h
theorem nw(h:p:=by
 go_wp2_with fail;refine(yH _).mono ?_;rintro _ wx ⟨rfl,bx⟩;go_wp2_with fail;go_ret;exact rW.mk I (rC HX HX.size bx)
 ):p:=h
theorem ny(h:p:=by
 go_wp2_with(refine rF (.load 171 (.tmp 3)) I ?_;go_must(refine rG I _ _ I gz 0 I BV 15 (by rw[ZL];decide) _ underlying171 I zv _ (uH Y) ?_));refine(FV.out _ HV).mono ?_;intro e9 w9 hf;obtain⟨he,hx⟩:=hf.x (L:=L) (D:=dp) (HLT.out.G HV) gne;rw[he];have HX:=J (hx.back (Fr.G HV));clear he hf FV hx;go_wp2_with fail;go_ret;rw[HR2.out];exact HX.out
 ):p:=h
theorem nA(h:p:=by
 rw[rounds_succ];go_wp2_with fail;rw[rounds_succ];go_wp2_with fail;go_ret;exact rW.mk I ((Below.refl _ _).alloc (Nat.le_refl _) _)
 ):p:=h
theorem nB(h:p:=by
 go_wp2_with fail;go_round
 case rel=>exact⟨k+1,Y,fQ,J (fun j hj h=>by
  by_cases e:j=k
  ·subst e;exact HB.out
  ·
   exact H.out j hj Y)⟩
 case measure=>simp[intOf];omega
 ):p:=h
theorem nD(h:p:=by
 go_wp2_with fail;exact⟨⟨k+1,Y,fY,by rw[HX.out],trivial⟩,by simp[intOf];omega⟩
 ):p:=h
theorem nF(h:p:=by
 have:=Bn.range 0 3 Y;rwa[List.drop_zero,List.take_of_length_le Y]at this
 ):p:=h
theorem nG(h:p:=by
 go_wp2_with(refine rF (.store 169 (.tmp 4) (.tmp 21)) I (ab I gr 0 sV B4 Y tn Cv ?_));intro w8 B8 g8 _;replace B8:=Bj B8 cR;have HB8:=rE HB4 g8 HB4.size hgr;clear g8 HB4 B4;go_wp2_with fail;refine tj I gr I B8 _ underlying169 I tn I (.bool false) I ?_;rw[HF.out];exact⟨sV,I,sA.zero _,HB8⟩
 ):p:=h
theorem nH(h:p:=by exact rW.mk I (Below.refl _ _)):p:=h
theorem nI(h:p:=by
 refine yd.same I I I I ?_ ?_ hlg hv (Nat.le_add_right _ _) I
 ·exact((Dj (x:={x with left:=x.left-1}) hd).trans hr.symm)
 ·have e:=(JO (x:={x with left:=x.left-1}) hd);have e2:Xc.rest {x with left:=x.left-1}=x.rest:=jT;rw[e,e2,hp];show(x.left-1).toNat+x.tmo.toNat*x.rest<=_;omega
 ):p:=h
theorem nJ(h:p:=by
 subst hty;unfold execOp;simp only[ho,resolve,invoke,builtin,Sem.run_bind,Sem.run_pure,Result.andThen_ok,List.map_toArray,List.map_cons,List.map_nil,hs,hy,hr]
 ):p:=h
theorem nK(h:p:=by
 intro l E;rcases List.mem_append.1 E with E|E
 ·exact h63 l E
 ·rw[List.mem_singleton.1 E];exact anL
 ):p:=h
theorem nL(h:p:=by
 by_cases h4:f=4
 ·subst h4;go_wp2_with fail;go_ret;exact rW.mk bK HB
 ·
  have h4':(f==4)=false:=kh;by_cases h6:f=6
  ·subst h6;go_wp2_with fail;go_ret;exact rW.mk bK HB
  ·have h6':(f==6)=false:=iw;rw[if_neg h4,if_neg h6]at HK;clear h4 h6;go_wp2_with fail;go_ret;exact rW.mk bK HB
 ):p:=h
theorem nM(h:p:=by
 have O4:=J (O3.out.frY F4 eH);have HB4:=J (F4.tD HB3.out alr (Nat.le_refl b));have HK4:=J (HK3.out.trans (sR.fr (lo:=w.heap.size) F4 eH));have hw4:=Nat.le_trans hw3 F4.size;clear B4 g4 K4 F4;go_wp2_with fail;go_meet
 case rel=>exact⟨_,L,S4,O4,HB4,HK4,hw4,fun h=>absurd h ao9,ajf⟩
 ):p:=h
theorem nN(h:p:=by
 go_wp2_with fail;go_roundw
 case rel=>exact⟨k+1,Y,fQ,hb3,hB2⟩
 case measure=>simp[intOf];omega
 ):p:=h
theorem nO(h:p:=by
 intro v' w' hO' f';have FIN:=J (xk.Ce hA9 hL9 F9 hD9 O9 rH hO' f');clear hA9 hL9 F9 hD9 O9 hO9 hO' f';go_wp2_with fail;go_ret;rw[HR2.out];exact FIN.out
 ):p:=h
theorem nP(h:p:=by
 go_wp2_with fail;go_roundw
 case rel=>exact⟨k+1,Y,fQ,by rw[U1.out],by rw[U2.out];exact O2.out,H2,BX3⟩
 case measure=>simp[intOf];omega
 ):p:=h
theorem nQ(h:p:=by
 go_wp2_with fail;go_roundw
 case rel=>exact⟨k+1,Y,fQ,by rw[U1.out],by rw[U2.out];exact O1.out,H1,BX2⟩
 case measure=>simp[intOf];omega
 ):p:=h
theorem nU(h:p:=by
 go_wp2_with fail;go_ret3;rw[HR.out];exact⟨I,hB⟩
 ):p:=h
theorem nV(h:p:=by
 have e:(rest.length<2)=False:=aB;have h':=Hx g rest false 2 w h E;rw[show xy rest false (hw 2)=rest.take 2 by simp[xy,hw,e],show ww rest false (hw 2)=rest.drop 2 by simp[ww,hw,e],show vY rest false (hw 2)=false by simp[vY,hw,e]]at h';exact h'
 ):p:=h
theorem nW(h:p:=by
 rcases ad1.2 with⟨rfl,rfl⟩|⟨g,cap,cur,rfl,_,_,hc,_⟩
 ·exact⟨none,0,I,Nat.le_refl _⟩
 ·exact⟨_,_,I,hc⟩
 ):p:=h
theorem nX(h:p:=by
 intro u hu;simp only[List.mem_cons,List.not_mem_nil,or_false]at hu;rcases hu with rfl|rfl|rfl|rfl
 ·rfl
 ·rfl
 ·exact hvn
 ·rfl
 ):p:=h
theorem nY(h:p:=by
 go_enter func90,ntmps90;go_wp2;go_ret2;exact uQ.mk I I
 ):p:=h
theorem nZ(h:p:=by
 unfold execOp;simp only[ho,Sem.run_bind,Sem.run_pure,Result.andThen_ok,List.map_toArray,List.map_cons,List.map_nil,hx,hr]
 ):p:=h
theorem od(h:p:=by
 rintro e B ⟨rfl,rfl⟩;go_wp2_with fail;go_ret;exact uQ.mk (wv RR.out.symm) I
 ):p:=h
theorem oe(h:p:=by
 obtain⟨R1,R2⟩:=NT (x:=x) (Nat.le_trans rH b1.size) U (F.G b1 F.lt) (h3.G b1) (h4.G b1) k1 g1 hb3 hg3;have R3:=(tC.Bc b1 rH).trans R2;clear hb3 hg3 hs3 B2 g1 k1 hr R2;go_wp2_with fail;go_end0;exact⟨I,R1,R3⟩
 ):p:=h
theorem og(h:p:=by simp[xI,List.set_append,hT,hq,qC]):p:=h
theorem oi(h:p:=by
 go_enter func132,ntmps132;go_wp2_with(go_at_call 137;first|(refine(uF _ _ _ aV).mono ?_;rintro e w' ⟨rfl,rfl⟩)|(refine(y6 _ _ _ aV).mono ?_;rintro e w' ⟨rfl,rfl⟩));go_ret;exact rW.mk I bi
 ):p:=h
theorem oj(h:p:=by
 go_wp2_with fail;go_ret;exact rW.mk I hB
 ):p:=h
theorem ol(h:p:=by
 have:=alq j hj;rw[Deep.add_add]at this;rw[<-this];congr 1;unfold Addr.add;split
 ·rename_i h0;have h0':i*P.cellsOf e=0/\j=0:=Y;simp only[Addr.mk.injEq,true_and,and_true];omega
 ·simp[Nat.add_assoc]
 ):p:=h
theorem om(h:p:=by
 go_enter func167,ntmps167;go_wp2_with(refine rF (.load 160 (.tmp 32)) I ?_;go_must(refine wpList_load_mid I 160 (.tmp 32) I ba oa I _ _ hrg underlying160 I xS ?_));go_ret;exact rW.mk I (apT.out _)
 ):p:=h
theorem oo(h:p:=by
 go_wp2_with fail;go_ret;exact⟨_,I,HQ.out⟩
 ):p:=h
theorem oq(h:p:=by
 go_wp2_with(refine rF (.load 67 (.tmp 56)) I ?_;go_must(refine rG I _ _ I gq 4 I C6 18 Y _ underlying67 I uq a.cells r4 ?_));go_meet
 case rel=>exact⟨_,ys,HX6,HF,HY,H6,Z6,HW6⟩
 ):p:=h
theorem ot(h:p:=by
 rw[hpk]at FS;have HP:=J hpk;clear hpk;go_wp2_with fail;go_roundw
 case rel=>exact⟨k+1,Y,fQ,by rw[FS.out];simpa using HO.out,by rw[FS.out];simpa using hle,hB⟩
 case measure=>simp[intOf];omega
 ):p:=h
theorem ou(h:p:=by
 go_wp2_with fail;go_quiet(fail);go_wp2_with fail;exact⟨I,I,yv (World.grownBy.refl _ _) _⟩
 ):p:=h
theorem ox(h:p:=by
 go_wp2_with fail;go_roundw
 case rel=>exact⟨k+1,Y,fQ,trivial⟩
 case measure=>simp[intOf];omega
 ):p:=h
theorem oy(h:p:=by
 go_enter func145,ntmps145;go_wp2_with fail;go_quiet(fail);go_wp2_with fail;go_ret;rw[HR2.out];exact⟨_,I,tf.nil _ _,⟨p,hJ.G (below_drewN HX _),HK.out⟩,r5 (below_drewN HX _) _⟩
 ):p:=h
theorem oz(h:p:=by
 rintro _ w' ⟨rfl,hB⟩;have e1:xQ T rU r=(if sf r.Q r.cl=1 then r.ad.ip.take 4 else r.ad.ip):=im;have e2:Dt T rU r=T:=iy;rw[e1,e2];exact⟨I,hT.G hB,yb.Bc hB rH⟩
 ):p:=h
theorem oB(h:p:=by
 go_wp2_with fail;go_meet
 case rel=>exact⟨by rw[HI2.out],B5,HB5⟩
 ):p:=h
theorem oC(h:p:=by
 go_wp2_with fail;refine tx I w.heap.size I asT _ underlying50 I MW I ?_;exact asH.out
 ):p:=h
theorem oD(h:p:=by
 go_enter func167,ntmps167;go_wp2_with fail;go_ret;exact rW.mk I HB
 ):p:=h
theorem oE(h:p:=by
 have alj:(lo++[r.sv[k]]).length<=3:=aB;go_wp2_with fail;go_roundw
 case rel=>exact⟨k+1,_,_,Y,fQ,O7,alj,FS1.out,B17,B27,B37,H7⟩
 case measure=>simp[intOf];omega
 ):p:=h
theorem oF(h:p:=by
 go_ret;exact rW.mk I hB5
 ):p:=h
theorem oG(h:p:=by
 have alj:(lo++[r.so[k]]).length<=10:=aB;go_wp2_with fail;go_roundw
 case rel=>exact⟨k+1,_,_,Y,fQ,O7,alj,B17,B27,B37,KO7,H7⟩
 case measure=>simp[intOf];omega
 ):p:=h
theorem oH(h:p:=by
 have ag2:¬(((l.take k).filter p).length:Int)<m:=Y;go_wp2_with fail;go_ret;refine⟨_,I,?_,hB⟩;have e:((l.take k).filter p).length=m:=Y;rw[xz e];exact HO.out
 ):p:=h
theorem oI(h:p:=by
 clear hS hS5 T4 K4 B4 Z4 O4 O5 g5 F5 T5 K5 B5 Z5 hv5 al8 K7 k7 B7 g7 b24 hO4 b4 hS4 hr5;go_wp2_with fail;go_meet
 case rel=>exact⟨v5,tl++TT,HK7,T7,hl5,O7,B7',Z7',F7⟩
 ):p:=h
theorem oJ(h:p:=by
 have alj:(lo++[x]).length<=8:=aB;go_wp2_with fail;go_roundw
 case rel=>exact⟨k+1,_,_,Y,fQ,O7.out,alj,FS1,S7.out,HO7⟩
 case measure=>simp[intOf];omega
 ):p:=h
theorem oK(h:p:=by
 have HB3:=rE CB g3 CB.size (Nat.le_refl _);clear g3 CB B2;go_wp2_with fail;refine tx I w.heap.size I B3 _ underlying67 I uq I ?_;exact rW.mk I HB3
 ):p:=h
theorem oL(h:p:=by
 go_wp2_with fail;go_ret;rw[HR2.out];exact FIN.out
 ):p:=h
theorem oM(h:p:=by
 have e2:qe=4:=HQ.out;subst e2;have e3:=FK.out K;subst e3;have hr0:=HE2.out.trans (if_pos K);subst hr0;clear HE2 FK HJ2 HQ;go_wp2_with fail;go_ret;exact rW.mk I HBn
 ):p:=h
theorem oN(h:p:=by
 unfold execOp;simp only[ho,hx,hy,Sem.run_bind,hst,Result.andThen_ok,Sem.run_pure]
 ):p:=h
theorem oO(h:p:=by
 intro e1 B hx;have hx:=hx.back HFW.out;obtain⟨v,D',rfl,hx2⟩:=hx;have HX:=J hx2;clear hx2 hx;go_wp2_with fail;go_ret;rw[HR.out];exact⟨v,D',I,HX.out⟩
 ):p:=h
theorem oP(h:p:=by
 go_wp2_with fail;go_ret;exact uQ.mk (wv R.out.symm) I
 ):p:=h
theorem oT(h:p:=by
 subst hd;refine wpAnyH_all hr ar fun j hj=>?_
 rw[List.mem_singleton]at hj;subst hj;unfold wpOp;simp only[hi,hw,if_true];left;unfold Oper.wp;rw[he];exact⟨hS,h⟩
 ):p:=h
theorem oU(h:p:=by injection h with h;omega):p:=h
theorem oV(h:p:=by
 go_wp2_with fail;go_ret2;exact rW.mk dZ (Below.refl _ _)
 ):p:=h
theorem oW(h:p:=by exact⟨I,hT.G hB,yb.Bc hB rH⟩):p:=h
theorem oX(h:p:=by
 have h1:¬(k:Int)<l.length:=Y;have hRf:=J (HFl.out (fun i hi=>HS.out i hi Y));clear HS HFl HT LI;go_wp2_with fail;go_ret;exact rW.mk eh HB
 ):p:=h
theorem oY(h:p:=by simpa[List.append_assoc]using this):p:=h
theorem oZ(h:p:=by
 clear hu;go_wp2;first|go_end0|refine bodyPost_ret (results_none I _ _ _) I ?_
 first|exact⟨I,I,I⟩|exact⟨I,I⟩|rfl
 ):p:=h
theorem pa(h:p:=by
 refine wpList_plain hgd fun al hK=>?_
 unfold Oper.wp execOp;simp only[ho,hx,Sem.run_bind,hr,Result.andThen_ok,Sem.run_pure];exact hK _ _ h
 ):p:=h
theorem pb(h:p:=by rw[List.map_append,List.length_append];exact hb2):p:=h
theorem pc(h:p:=by
 go_enter func42,ntmps42;go_wp2_with fail;refine(NM.out _).mono ?_;rintro _ B ⟨rfl,B1⟩;go_wp2_with fail;go_ret2;exact rW.mk I B1
 ):p:=h
theorem pd(h:p:=by rw[<-Nat.mul_assoc,Nat.mul_right_comm 2,show 2*7=14 from I]):p:=h
theorem pf(h:p:=by
 simp only[List.flatten_cons,List.flatten_nil,List.append_nil,List.length_singleton,Nat.one_mul];exact List.take_of_length_le Y
 ):p:=h
theorem pg(h:p:=by
 intro A' c' w' ho hg;have HB:ao w w':=gX;have HO:=J ho;clear RG H0 ho hg kb;go_wp2_with fail;go_ret;exact⟨_,I,HO.out,HB⟩
 ):p:=h
theorem pi(h:p:=by simp only[List.size_toArray,List.length_append,List.length_take,List.length_drop,Array.length_toList,sI];omega):p:=h
theorem pj(h:p:=by
 go_wp2_with fail;go_ret;exact⟨_,I,rC H1 H1.size hS⟩
 ):p:=h
theorem pk(h:p:=by
 rw[List.take_succ_eq_append_getElem O,D8,h];show(if(vz y (vZ l[k])).2 then _ else _)=_;rw[hf];rfl
 ):p:=h
theorem pn(h:p:=by
 rw[if_neg aY];have:=ih (k:=k) aZ (fun j hj hjk=>by have:=h (j+1) aB Y;simpa using this) aM;simpa using this
 ):p:=h
theorem pq(h:p:=by
 have hz:¬r.ad.az≠0:=fun c=>hn (.inr (.inr c))
 exact⟨Decidable.not_not.1 h4,Decidable.not_not.1 hz⟩
 ):p:=h
theorem pt(h:p:=by
 go_wp2_with fail;go_ret2;exact rW.mk I HB
 ):p:=h
theorem pu(h:p:=by rw[xL,List.length_append];exact hb2):p:=h
theorem pw(h:p:=by
 simp only[xG,Bool.and_eq_true,decide_eq_true_eq]at h;rw[F];exact Int.emod_eq_of_lt h.1 (by have:=h.2;omega)
 ):p:=h
theorem pz(h:p:=by
 rw[Array.toArray_toList]at this;exact this
 ):p:=h
theorem pA(h:p:=by
 rintro _ B ⟨rfl,b1⟩;have hB1:=rC hB hB.size b1;go_wp2_with fail;go_ret3;rw[HR.out];exact⟨I,hB1⟩
 ):p:=h
theorem pB(h:p:=by
 refine(AC.out _).mono ?_;rintro _ B ⟨rfl,b1⟩;go_wp2_with fail;go_ret;exact rW.mk bK (rC HB HB.size b1)
 ):p:=h
theorem pC(h:p:=by
 intro y hy;rcases List.mem_append.1 hy with hy|hy
 ·exact hh.ad.tm _ hy
 ·rw[List.mem_singleton.1 hy];rfl
 ):p:=h
theorem pD(h:p:=by show x.tmo.toNat*(3*(x.tr.length-x.k-1))<=_;omega):p:=h
theorem pE(h:p:=by
 intro y hy;rcases List.mem_append.1 hy with hy|hy
 ·exact h.ad.tm _ hy
 ·rw[List.mem_singleton.1 hy];rfl
 ):p:=h
theorem pF(h:p:=by
 have hRt:=J (HTk.out hq);rw[decide_eq_true hq];clear hq HTk HSk HFl;go_wp2_with fail;go_ret;exact rW.mk ei HB5
 ):p:=h
theorem pG(h:p:=by
 subst hv;exact⟨hg.os,hg.tape,hg.output,hg.size,fun i hi=>.inl (hg.block i hi (by intro h;cases h))⟩
 ):p:=h
theorem pH(h:p:=by
 rintro _ w' ⟨v,rfl,o,c',n',L',q0,q1,q2,q3,q4⟩;exact⟨v,I,⟨c',n',L',q0,q3⟩,q4⟩
 ):p:=h
theorem pI(h:p:=by
 show cs.drop 0=_;rw[tu cs 0 18 18 I,e0,tu cs 18 1 19 I,e1,List.drop_of_length_le Y];rfl
 ):p:=h
theorem pJ(h:p:=by
 go_wp2_with fail;go_meet
 case rel=>exact⟨I,I⟩
 ):p:=h
theorem pK(h:p:=by
 clear hS K3d B7 g7 s7 K7 k7 LS;go_wp2_with fail;go_meet
 case rel=>exact⟨HK7,T7,O7,B7',Z7',F7⟩
 ):p:=h
theorem pL(h:p:=by exact⟨An,cn,At,ct,Am,cm,I,⟨I,hr.2⟩,hN.G hB,hT.G hB,hM.G hB,aiS⟩):p:=h
theorem pM(h:p:=by
 subst this;unfold N at Z;rw[hh]at Z;injection Z with Z;injection Z with _ ht;exact hl ht.symm
 ):p:=h
theorem pN(h:p:=by rwa[List.drop_of_length_le hM,List.append_nil]at h):p:=h
theorem pO(h:p:=by
 intro hi;rcases Lm hi with⟨s',h,_⟩|⟨h,_⟩
 ·rw[e]at h;cases h
 ·rwa[e]at h
 ):p:=h
theorem pP(h:p:=by
 simp only[List.mem_cons,List.not_mem_nil,or_false]at hv;rcases hv with rfl|rfl|rfl<;>rfl
 ):p:=h
theorem pQ(h:p:=by
 rintro rfl;obtain⟨D,⟨es,cl,hm,_⟩,_⟩:=h;unfold N at Z;rw[Z]at hm;cases hm
 ):p:=h
theorem pR(h:p:=by obtain⟨_,_,At,ct,_,_,rfl,hr,_,hR,_⟩:=h;exact⟨At,ct,DR hr,hR⟩):p:=h
theorem pS(h:p:=by
 rw[this,hd];simp only[uz,sg.cells,xL,List.append_assoc,List.cons_append];rfl
 ):p:=h
theorem pT(h:p:=by
 rcases aie.2 with⟨_,h0⟩|⟨g,cap,_,hv,_⟩
 ·omega
 ·exact⟨g,cap,hv⟩
 ):p:=h
theorem pU(h:p:=by
 go_wp2_with fail;go_meet
 case rel=>exact⟨_,HS3,HO,by rw[<-hll.out];exact HSO⟩
 ):p:=h
theorem pV(h:p:=by
 simp[zV]at hbd;have:=hbd.1;have:0<n[k].length:=List.length_pos_iff.2 this;omega
 ):p:=h
theorem pW(h:p:=by
 rintro e w2 ⟨rfl,hg⟩;go_wp2_with fail;exact⟨I,I,II hB1 hg hg1 rH⟩
 ):p:=h
theorem pX(h:p:=by
 unfold execOp;simp only[ho,hx,Sem.run_bind,hv w hC,Result.andThen_ok,Sem.run_pure]
 ):p:=h
theorem pY(h:p:=by
 go_wp2_with fail;go_ret;rw[HT.out];exact FIN.out
 ):p:=h
theorem pZ(h:p:=by exact⟨An,cn,none,0,Am,cm,I,hr,hN.G hB,wA.nil _,hM.G hB,aiS⟩):p:=h
theorem p8(h:p:=by
 refine⟨css++[cs],?_,(h.TU hr).mono (fun _ _ x=>x.rM hs)⟩;simpa using ho
 ):p:=h
theorem p9(h:p:=by
 split at h
 ·rename_i ht;injection h with h;subst h;exact WL ht
 ·cases h
 ):p:=h
theorem qd(h:p:=by
 go_wp2_with fail;go_ret;exact⟨_,I,World.ownsRow_nil _ _ _ _,Below.refl _ _⟩
 ):p:=h
theorem qf(h:p:=by
 unfold execOp;simp only[ho,hx,Sem.run_bind,hv,Result.andThen_ok,Sem.run_pure]
 ):p:=h
theorem qg(h:p:=by
 unfold execOp;simp only[ho,hv,Sem.run_bind,hr,Result.andThen_ok,Sem.run_pure]
 ):p:=h
theorem qh(h:p:=by show 3*(x.tr.length-x.k-1)<=_;omega):p:=h
theorem qi(h:p:=by
 go_wp2_with fail;go_ret;exact rW.mk I HB2
 ):p:=h
theorem qj(h:p:=by
 go_wp2_with fail;go_ret;exact rW.mk I HB1
 ):p:=h
theorem qk(h:p:=by
 clear U F SET awQ;go_enter func118,ntmps118;go_wp2_with fail;go_end0;exact S.out
 ):p:=h
theorem qm(h:p:=by
 subst hd;unfold wpOp;simp only[hi,hw,if_true];left;unfold Oper.wp;rw[he];exact h
 ):p:=h
theorem qn(h:p:=by
 rw[if_neg aY];exact ih (fun j hj=>by have:=h (j+1) aB;simpa using this)
 ):p:=h
theorem qo(h:p:=by
 rw[hro]at d6;go_wp2_with fail;go_meet
 case rel=>exact⟨by rw[hro],I⟩
 ):p:=h
theorem qp(h:p:=by
 go_wp2_with fail;go_meet
 case rel=>exact⟨gz,ds,I,I,B8,hM8,hS8⟩
 ):p:=h
theorem qt(h:p:=by exact⟨v,D',I,HX2.out⟩):p:=h
theorem qu(h:p:=by
 go_wp2_with fail;go_ret;exact rW.mk db H1
 ):p:=h
theorem qv(h:p:=by
 intro v hv;rcases List.mem_cons.1 hv with rfl|hv
 ·rfl
 ·exact hM.one v hv
 ):p:=h
theorem qw(h:p:=by
 go_wp2_with fail;go_meet
 case rel=>exact⟨_,lo,ho,B1,B2,B3,KO,H⟩
 ):p:=h
theorem qx(h:p:=by exact⟨v',w',hr,F,h3⟩):p:=h
theorem qy(h:p:=by
 clear h4;go_wp2_with fail;go_meet
 case rel=>exact⟨by rw[hF.out],I⟩
 ):p:=h
theorem qz(h:p:=by
 have:=HLO.out;rw[this];exact Nat.le_trans (List.length_filter_le _ _) fo
 ):p:=h
theorem qA(h:p:=by exact rW.mk I (((Below.refl _ _).alloc (Nat.le_refl _) _).alloc ar _)):p:=h
theorem qB(h:p:=by
 rw[hh]at b1';injection b1' with b1';injection b1' with _ b1';exact n1 b1'
 ):p:=h
theorem qD(h:p:=by
 go_wp2_with fail;go_meet
 case rel=>exact⟨by rw[HWT.out];rfl,I⟩
 ):p:=h
theorem qF(h:p:=by
 clear he hr;go_wp2_with fail;go_ret;exact rW.mk (wv HR.out.symm) hB
 ):p:=h
theorem qG(h:p:=by
 simp only[Fj]at h;split at h
 ·simp at h;simp[<-h.2]
 ·simp at h
 ):p:=h
theorem qH(h:p:=by
 go_wp2_with fail;go_ret3;exact⟨_,I,tw.nil _,Below.refl _ _⟩
 ):p:=h
theorem qI(h:p:=by
 rw[BO]at h;cases h;exact⟨0,ar,I,.inl I,Y,[],ar⟩
 ):p:=h
theorem qJ(h:p:=by rw[if_pos U]at h;exact absurd h U):p:=h
theorem qK(h:p:=by
 have:=Yg p.bg p.bg.length;rw[List.take_length]at this;omega
 ):p:=h
theorem qL(h:p:=by
 go_wp2_with fail;go_meet
 case rel=>exact⟨c1,n1,hn1,HE1,HWx⟩
 ):p:=h
theorem qM(h:p:=by
 subst b2 b3 b4 b5 b6 b7 b8;unfold Vu;simp only[RR.zero];rw[<-e]
 ):p:=h
theorem qN(h:p:=by rw[List.take_succ_eq_append_getElem O,List.foldl_append];rfl):p:=h
theorem qO(h:p:=by
 go_wp2_with fail;go_ret;exact FIN.out
 ):p:=h
theorem qP(h:p:=by
 go_wp2_with fail;go_ret;exact⟨false,I,fun h=>cX,hW⟩
 ):p:=h
theorem qQ(h:p:=by
 go_wp2_with fail;go_ret;exact uQ.mk (xJ HN.out.symm) I
 ):p:=h
theorem qR(h:p:=by
 go_wp2_with fail;go_ret;exact uQ.mk (by rw[HK2.out];rfl) I
 ):p:=h
theorem qS(h:p:=by
 obtain⟨D,ho,hf⟩:=h;exact⟨D,ho.kept hg hl,hf⟩
 ):p:=h
theorem qT(h:p:=by
 have:l≠[]:=List.length_pos_iff.1 hp;simpa using this
 ):p:=h
theorem qU(h:p:=by
 simp only[xx,List.nil_append];rw[if_neg U,if_neg Y]
 ):p:=h
theorem qV(h:p:=by
 injection hat with hat;injection hat with _ hat;rw[<-hat]
 ):p:=h
theorem qW(h:p:=by
 go_wp2_with fail;go_ret;rw[<-HS.out];exact⟨I,I⟩
 ):p:=h
theorem qX(h:p:=by
 go_wp2_with fail;go_ret2;exact Lj HO.out aW hT2 hB3
 ):p:=h
theorem qY(h:p:=by
 rw[HF3.out];exact⟨_,_,_,_,_,_,_,_,I,H7⟩
 ):p:=h
theorem rb(h:p:=by
 simp only[List.length_cons,List.length_append];omega
 ):p:=h
theorem rh(h:p:=by split at ht<;>split at ht<;>simp at ht<;>omega):p:=h
theorem ri(h:p:=by
 rw[HQ.out];exact O5.sD (sU _ _ _ _) E3 K
 ):p:=h
theorem rj(h:p:=by
 have:=WM m a w E;rw[h]at this;exact this
 ):p:=h
theorem rk(h:p:=by
 have:=key l ([],L,[]);simpa[sH]using this
 ):p:=h
theorem rl(h:p:=by exact⟨ds,I,hM8,HB8⟩):p:=h
theorem rm(h:p:=by exact rW.mk I (below_drewN (Below.refl _ _) _)):p:=h
theorem rn(h:p:=by
 go_wp2_with fail;go_ret3;exact⟨v,I,hT,hB⟩
 ):p:=h
theorem rp(h:p:=by obtain⟨b,_,rfl⟩:=List.mem_map.1 hv;rfl):p:=h
theorem rq(h:p:=by exact FIN.out _ (below_drewN (Below.refl _ _) _)):p:=h
theorem ru(h:p:=by rw[decide_eq_true Y,decide_eq_true Y];rfl):p:=h
theorem ry(h:p:=by
 go_wp2_with fail;go_ret;exact⟨I,R1,R3⟩
 ):p:=h
theorem rA(h:p:=by rw[<-Bool.not_eq_true,zj];omega):p:=h
end
theorem lsA{α:Type _}(l:List α)(i:Nat)(a:α):l.toArray.setIfInBounds i a=(l.set i a).toArray:=List.setIfInBounds_toArray ..
theorem lsB{α:Type _}(x:α)(l:List α)(a:α):(x::l).set 0 a=a::l:=List.set_cons_zero ..
theorem lsC{α:Type _}(x:α)(l:List α)(n:Nat)(a:α):(x::l).set (n+1) a=x::l.set n a:=List.set_cons_succ ..
theorem uH{L:List Value}{n:Nat}(h:L.length<=n):(L.drop 0).take n=L:=by rw[List.drop_zero,List.take_of_length_le h]
theorem J{p:Prop}(h:p):RowKit.Hid p:=Lib.hid h
open _root_.Go.Proofs.Tryz
open Go.RowKit
theorem X:(∀(l:List Value) ds (i:Nat) v,Act.put ⟨l.toArray,ds⟩ (some i) v=⟨(l.set i v).toArray,ds⟩)/\(∀a v,Act.put a none v=a)/\(∀(x:Value) l a,(x::l).set 0 a=a::l)/\∀(x:Value) l (n:Nat) a,(x::l).set (n+1) a=x::l.set n a:=⟨fun l ds i v=>by simp[Act.put],fun _ _=>rfl,fun _ _ _=>rfl,fun _ _ _ _=>rfl⟩
abbrev ao(w w2:World):Prop:=Below w.heap.size w w2
theorem aq{α:Sort _}(a:α):∃b,Hid (a=b):=⟨a,Lib.hid I⟩
def uQ(v:Value)(w:World)(e:Ending)(w':World):Prop:=e= .returned v/\w=w'
def rW(v:Value)(w:World)(e:Ending)(w':World):Prop:=e= .returned v/\ao w w'
theorem uQ.mk{e:Ending}(h:e= .returned v)(hw:w=w'):uQ v w e w':=⟨h,hw⟩
theorem rW.mk{e:Ending}(h:e= .returned v)(hw:ao w w'):rW v w e w':=⟨h,hw⟩
theorem uQ.toB{e:Ending}(h:uQ v w e w'):rW v w e w':=⟨h.1,h.2▸Below.refl _ _⟩
theorem uQ.quiet{f:FuncId}{args:Array Value}{n:Nat}(h:Calls P f args (w.drewN n) (uQ v (w.drewN n))):Calls P f args (w.drewN n) fun e w''=>e= .returned v/\∃m,w''=w.drewN m:=
 h.mono fun _ _ ⟨he,hm⟩=>⟨he,n,hm.symm⟩
theorem Wf{A W B:World}(h:ao A W)(b:ao W B):ao A B:=h.trans (b.mono h.size)
theorem wv{k:IntKind}{a b:Int}(h:a=b):Ending.returned (.int k a)= .returned (.int k b):=by rw[h]
theorem xJ{a b:Bool}(h:a=b):Ending.returned (.bool a)= .returned (.bool b):=by rw[h]
theorem below_drewN(h:Below Hh a w)(n:Nat):Below Hh a (w.drewN n):=⟨h.os,h.tape,h.output,h.size,h.block⟩
theorem rC(h:Below Hh a w)(hB:Hh<=w.heap.size)(k:ao w w'):Below Hh a w':=h.trans (k.mono hB)
theorem zM(h:Below Hh a w)(hB:Hh<=a.heap.size):Hh<=w.heap.size:=Nat.le_trans hB h.size
theorem SY(w:World){a:Act}{hb:Exit->Act->World->Prop}(hgd:o.guard=none)(s x:Operand)(t:TypeId)
  (ho:o.op= .call {callee:=.builtin .append,args:= #[s,x],argTypes:= #[t,t]})
  (e:TypeId) (z:Value) (size bytes:Nat) (ht:P.underlying t=some (.slice e)) (hi:(P.info? e).map (fun i=>(i.zero,i.size,i.bytes))=some (some z,size,bytes)) (hzs:z.cells.size=size) (hsz:0<size)
  (v:Value) (n:Nat) (xs:List Value) (hs:a.eval s=v) (ad1:w.ownsRow 0 e size v n xs)
  (ad:Addr) (m c:Nat) (news:List Value) (hx:a.eval x= .slice (some ad) m c) (E:news.length=m*size) (anv:∀j u,news[j]?=some u->w.cell? (ad.add j)=some u) (U:∀u∈news,u.oneCell'=true)
  (hm:0<m) (h63:n+m<=maxLen) (agH:(n+m)*bytes<=140737488355328)
  (h:∀g cap w',w'.ownsRow 0 e size (.slice (some ⟨g,0,none⟩) (n+m) cap) (n+m) (xs++news)->w.grownBy w' v.ownBlock->(v.ownBlock=some g\/g=w.heap.size)->wpList P ops hb rest (a.put o.dst (.slice (some ⟨g,0,none⟩) (n+m) cap)) w'):
  wpList P ops hb (o::rest) a w:=by
 obtain⟨i,hi,hz,adR,hby⟩:=info_parts hi;refine wpList_append_own_at w hgd s x t ho 0 e i z size bytes ht hi hz adR hby hzs hsz v n xs hs ad1 ad m c news hx E anv U h63 agH (Nat.zero_le _) ?_;intro v' w' aie hg _ hat;obtain⟨g,cap,rfl⟩:∃g cap,v'= .slice (some ⟨g,0,none⟩) (n+m) cap:=by exact pT
 refine h g cap w' aie hg ?_;rcases hat with h|h
 ·exact .inl h.symm
 ·exact .inr (by simpa[Value.ownBlock]using h)
theorem AZ{row:Option Nat}(h:w.grownBy w' row)(p:Addr)(hp:p.block<w.heap.size)(hr:some p.block≠row):w'.cell? p=w.cell? p:=World.cell?_of_block (h.block _ hp hr)
theorem rO{b c:World}{row aq8:Option Nat}(h:a.grownBy b row)(k:b.grownBy c aq8)(hr:aq8=row\/∀g,aq8=some g->a.heap.size<=g):a.grownBy c row:=
 ⟨k.os.trans h.os,k.tape.trans h.tape,k.output.trans h.output,Nat.le_trans h.size k.size,fun i hi hl=>(k.block i (Nat.lt_of_lt_of_le hi h.size) (by
  rcases hr with rfl|hr
  ·exact hl
  ·
   intro e;have:=hr i e.symm;omega)).trans (h.block i hi hl)⟩
def N(w:World)(g:Nat)(t:TypeId)(cs:List Value):Prop:=w.heap[g]?=some (.cells cs.toArray t (0,0))
section
variable {w w':World} {g:Nat} {t:TypeId} {cs:List Value}
theorem N.lt(h:N w g t cs):g<w.heap.size:=by
 rcases Nat.lt_or_ge g w.heap.size with aA|hge
 ·exact aA
 ·unfold N at h;rw[Array.getElem?_eq_none hge]at h;cases h
theorem N.cell(h:N w g t cs)(i:Nat):w.cell? ⟨g,i,none⟩=cs[i]?:=by
 rw[cell_of_row w g i cs.toArray t (0,0) h];simp
theorem N.rD(h:N w g t cs)(i:Nat)(hi:cs[i]?=some u):w.cell? ⟨g,i,none⟩=some u:=(h.cell i).trans hi
theorem N.frozen(h:N w g t cs)(i:Nat):w.frozen? ⟨g,i,none⟩=false:=by
 unfold N at h;simp[World.frozen?,h]
theorem N.new(w:World)(t:TypeId)(cs:List Value):N (w.alloc (.cells cs.toArray t)) w.heap.size t cs:=heap_alloc_new w _
theorem N.uE(w:World)(t:TypeId)(cs:List Value)(k:Nat)(O:k=w.heap.size):N (w.alloc (.cells cs.toArray t)) k t cs:=O▸heap_alloc_new w _
theorem N.drew(h:N w g t cs):N w.drew g t cs:=h
theorem N.drewN(h:N w g t cs)(n:Nat):N (w.drewN n) g t cs:=h
theorem N.alloc(h:N w g t cs)(o:Obj):N (w.alloc o) g t cs:=(Below.heap_alloc w o g h.lt).trans h
theorem N.set(h:N w g t cs)(i:Nat)(u:Value):N (w.setCell ⟨g,i,none⟩ u) g t (cs.set i u):=by
 unfold N at h⊢;simp[World.setCell,Array.getElem?_modify,h]
theorem N.wZ(h:N w g t cs){p:Addr}(hp:g≠p.block)(u:Value):N (w.setCell p u) g t cs:=(Below.heap_setCell w p u g hp).trans h
theorem N.G(h:N w g t cs)(Z:Below Hh w w')(hg:g<Hh):N w' g t cs:=(Z.block g hg).trans h
theorem N.grown{row:Option Nat}(h:N w g t cs)(Z:w.grownBy w' row)(hg:some g≠row):N w' g t cs:=(Z.block g h.lt hg).trans h
end
theorem sd(h:a.grownBy w (some g))(i:Nat)(u:Value):a.grownBy (w.setCell ⟨g,i,none⟩ u) (some g):=
 ⟨h.os,h.tape,h.output,by simpa[World.setCell]using h.size,fun i' hi hl=>(Below.heap_setCell w _ u i' (by simp only;intro e;exact hl (by rw[e]))).trans (h.block i' hi hl)⟩
theorem zB{row:Option Nat}(h:a.grownBy w row)(o:Obj):a.grownBy (w.alloc o) row:=
 ⟨h.os,h.tape,h.output,Nat.le_trans h.size ar,fun i hi hl=>(Below.heap_alloc w o i (Nat.lt_of_lt_of_le hi h.size)).trans (h.block i hi hl)⟩
theorem wI{row:Option Nat}(h:a.grownBy w row):a.grownBy w.drew row:=⟨h.os,h.tape,h.output,h.size,h.block⟩
theorem yv{row:Option Nat}(h:a.grownBy w row)(n:Nat):a.grownBy (w.drewN n) row:=⟨h.os,h.tape,h.output,h.size,h.block⟩
theorem tO{row:Option Nat}(h:a.grownBy w row)(Z:ao w w'):a.grownBy w' row:=
 ⟨Z.os.trans h.os,Z.tape.trans h.tape,Z.output.trans h.output,Nat.le_trans h.size Z.size,fun i hi hl=>(Z.block i (Nat.lt_of_lt_of_le hi h.size)).trans (h.block i hi hl)⟩
theorem rE(h:Below Hh a w)(hg:w.grownBy w' (some g))(hB:Hh<=w.heap.size)(hr:Hh<=g):Below Hh a w':=
 h.grown hg hB (fun k O=>by injection O with O;omega)
theorem r5(h:ao a w)(row:Option Nat):a.grownBy w row:=⟨h.os,h.tape,h.output,h.size,fun i hi _=>h.block i hi⟩
theorem vJ(w:World)(u:Value)(t:TypeId)(k:Nat)(O:k=w.heap.size):∀j x,[u][j]?=some x->(w.alloc (.cells #[u] t)).cell? ((⟨k,0,none⟩:Addr).add j)=some x:=by
 subst O;intro j x hx;rcases j with _|j
 ·simp at hx;subst hx;simp[Addr.add,go_sem]
 ·simp at hx
theorem uA(h:u.oneCell'=true):∀x∈[u],x.oneCell'=true:=by simpa using h
def bs(l:List UInt8):ByteArray:=⟨l.toArray⟩
theorem afr(s:ByteArray):s=bs s.data.toList:=by cases s;simp[bs]
@[go_sem,simp] theorem vB(l:List UInt8):(bs l).size=l.length:=by simp[bs,ByteArray.size]
theorem abZ(l:List UInt8):(bs l).data.toList=l:=by simp[bs]
@[go_sem] theorem SZ(a b:List UInt8):bs a++bs b=bs (a++b):=by unfold bs;rw[ByteArray.mk_append_mk]
@[go_sem] theorem aem(a b:List UInt8):bs a++⟨b.toArray⟩=bs (a++b):=SZ a b
@[go_sem] theorem aen(a b:List UInt8):(⟨a.toArray⟩:ByteArray)++bs b=bs (a++b):=SZ a b
@[go_sem] theorem aeo(l:List UInt8)(i j:Nat):(bs l).extract i j=bs ((l.take j).drop i):=by
 unfold bs;rw[ByteArray.extract_mk,List.drop_take]
@[go_sem] theorem agA(l:List UInt8)(i:Nat)(h:i<(bs l).size):(bs l)[i]=l[i]'aw:=rfl
theorem toList_mk(l:List UInt8):ByteArray.toList ⟨l.toArray⟩=l:=by rw[ByteArray.toList_eq]
@[go_sem] theorem afl(l:List UInt8):(bs l).toList=l:=toList_mk l
def Byt(w:World)(g off:Nat)(l:List UInt8):Prop:=∀j (hj:j<l.length),w.cell? ⟨g,off+j,none⟩=some (.int .u8 (l[j].toNat:Int))
theorem Byt.rU{off:Nat}{l:List UInt8}(h:Byt w g off l)(j:Nat)(hj:j<l.length):w.cell? ⟨g,off+j,none⟩=some (.int .u8 (l[j].toNat:Int)):=h j hj
theorem Iu(w:World){a:Act}{hb:Exit->Act->World->Prop}(hgd:o.guard=none)(x:Operand)(src dst e:TypeId)
  (ho:o.op= .convert src dst x) (hs:P.underlying src=some .string) (hd:P.underlying dst=some (.slice e)) (he:P.underlying e=some (.int .u8)) (l:List UInt8) (hx:a.eval x= .string (bs l))
  (h:∀cap w',l.length<=cap->Byt w' w.heap.size 0 l->ao w w'->w'.heap.size=w.heap.size+1->wpList P ops hb rest (a.put o.dst (.slice (some ⟨w.heap.size,0,none⟩) l.length cap)) w'):
  wpList P ops hb (o::rest) a w:=by
 refine wpList_plain hgd fun al hK=>?_
 have hr:=run_bytes_of_string (P:=P) w src dst e (bs l) hs hd he;rw[vB]at hr;generalize aii:grownCap w l.length 0 e=cap at hr;have hle:l.length<=cap:=by rw[<-aii];unfold grownCap;simp[Question.cut]
 unfold Oper.wp;simp[execOp,ho,hx,hr,Result.andThen];refine hK _ _ (h cap _ hle ?_ ?_ ?_)
 ·intro j hj;have e1:=World.cell?_alloc_mark w.drew (bytesRow (bs l) cap) e ((bytesRow (bs l) cap).size,(bytesRow (bs l) cap).size+1) (0+j);rw[show w.drew.heap.size=w.heap.size from I]at e1;rw[e1,Nat.zero_add,bytesRow_at (bs l) cap j (by simpa[bs]using hj)];simp[bs]
 ·exact((Below.refl _ _).drew).alloc (Nat.le_refl _) _
 ·simp
set_option maxRecDepth 100000
def hw(width:Int):Nat:=if width<0 then 0 else if 4<width then 4 else width.toNat
theorem YE(width:Int):hw width<=4:=by unfold hw;split<;>(try split)<;>omega
def rP:Nat->Int->List UInt8
 |0,_=>[]
 |k+1,n=>rP k (n/256)++[UInt8.ofNat (n%256).toNat]
theorem rL(k:Nat):∀n:Int,(rP k n).length=k:=by
 induction k with
 |zero=>intro n;rfl
 |succ k ih=>intro n;simp[rP,ih]
def sY(l:List UInt8):Nat:=l.foldl (fun n c=>256*n+c.toNat) 0
theorem KX(l:List UInt8)(c:UInt8):sY (l++[c])=256*sY l+c.toNat:=by simp[sY]
theorem ab0(l:List UInt8):sY l<256^l.length:=by
 have h:∀(l:List UInt8) (n k:Nat),n<256^k->l.foldl (fun n c=>256*n+c.toNat) n<256^(k+l.length):=by
  intro l;induction l with
  |nil=>intro n k h;simpa using h
  |cons c l ih=>intro n k h;have hc:=c.toNat_lt;have U:=ih (256*n+c.toNat) (k+1) ay;rw[List.foldl_cons,List.length_cons,show k+(l.length+1)=k+1+l.length by omega];exact U
 simpa[sY]using h l 0 0 ar
theorem zU(n:Int)(w:World):Calls prog 154 #[.int .i64 n] w (uQ (.int .i64 (hw n)) w):=by
 go_enter func154,ntmps154;go_wp2;all_goals go_ret
 all_goals exact uQ.mk (wv (by unfold hw;split<;>(try split)<;>omega)) I
theorem Ch(w:World)(t:TypeId)(k:IntKind)(xs:List Int):∀i,i<xs.length->(w.alloc (.cells (xs.map (Value.int k)).toArray t)).cell? ⟨w.heap.size,0+i,none⟩=some (.int k (xs.getD i 0)):=by
 intro i hi;rw[(N.new w t (xs.map (Value.int k))).cell];simp[List.getD,List.getElem?_eq_getElem hi]
theorem afs(width n:Int)(w:World)(h:hw width=0):Calls prog 136 #[.int .i64 width,.int .i64 n] w (rW (.string (bs (rP 0 n))) w):=by
 have hmk:∀w:World,(Instr.makeSlice 101 (.int .i64 0) (.int .i64 0)).run prog w= .ok (.slice (some ⟨w.heap.size,0,none⟩) 0 0) (w.alloc (.cells #[] 5)):=fun _=>by kernel_rfl
 have hcv:(convert 101 9 (.slice (some ⟨w.heap.size,0,none⟩) 0 0)).run prog (w.alloc (.cells #[] 5))= .ok (.string (bs (rP 0 n))) (w.alloc (.cells #[] 5)):=
  run_convert_bytes_arg _ 101 5 underlying101 underlying5 _ 0 0 0 [] I (Ch w _ _ []) 9 underlying9
 have H:=Lib.hid h;clear h;go_enter func136,ntmps136;go_wp2_with fail;refine(zU _ _).mono ?_;rintro e w' ⟨rfl,rfl⟩;rw[H.out,show((0:Nat):Int)=0 from I];go_wp2_with fail;refine wp_loop_rounds 1 ?_;rw[rounds_succ];go_wp2_with fail;go_ret;exact rW.mk I ((Below.refl _ _).alloc (Nat.le_refl _) _)
theorem aft(width n:Int)(w:World)(h:hw width=1):Calls prog 136 #[.int .i64 width,.int .i64 n] w (rW (.string (bs (rP 1 n))) w):=by
 have hmk:∀w:World,(Instr.makeSlice 101 (.int .i64 1) (.int .i64 1)).run prog w= .ok (.slice (some ⟨w.heap.size,0,none⟩) 1 1) (w.alloc (.cells #[.int .u8 0] 5)):=fun _=>by kernel_rfl
 have hcv:(convert 101 9 (.slice (some ⟨w.heap.size,0,none⟩) 1 1)).run prog (w.alloc (.cells #[.int .u8 (n%256)] 5))= .ok (.string (bs (rP 1 n))) (w.alloc (.cells #[.int .u8 (n%256)] 5)):=
  run_convert_bytes_arg _ 101 5 underlying101 underlying5 _ 0 1 1 [n%256] I (Ch w _ _ [n%256]) 9 underlying9
 have H:=Lib.hid h;clear h;go_enter func136,ntmps136;go_wp2_with fail;refine(zU _ _).mono ?_;rintro e w' ⟨rfl,rfl⟩;rw[H.out,show((1:Nat):Int)=1 from I];go_wp2_with fail;refine wp_loop_rounds 2 ?_;exact nA
theorem afu(width n:Int)(w:World)(h:hw width=2):Calls prog 136 #[.int .i64 width,.int .i64 n] w (rW (.string (bs (rP 2 n))) w):=by
 have hmk:∀w:World,(Instr.makeSlice 101 (.int .i64 2) (.int .i64 2)).run prog w= .ok (.slice (some ⟨w.heap.size,0,none⟩) 2 2) (w.alloc (.cells #[.int .u8 0,.int .u8 0] 5)):=fun _=>by kernel_rfl
 have hcv:(convert 101 9 (.slice (some ⟨w.heap.size,0,none⟩) 2 2)).run prog (w.alloc (.cells #[.int .u8 (n/256%256),.int .u8 (n%256)] 5))= .ok (.string (bs (rP 2 n))) (w.alloc (.cells #[.int .u8 (n/256%256),.int .u8 (n%256)] 5)):=
  run_convert_bytes_arg _ 101 5 underlying101 underlying5 _ 0 2 2 [n/256%256,n%256] I (Ch w _ _ [n/256%256,n%256]) 9 underlying9
 have H:=Lib.hid h;clear h;go_enter func136,ntmps136;go_wp2_with fail;refine(zU _ _).mono ?_;rintro e w' ⟨rfl,rfl⟩;rw[H.out,show((2:Nat):Int)=2 from I];go_wp2_with fail;refine wp_loop_rounds 3 ?_;rw[rounds_succ];go_wp2_with fail;exact nA
theorem afv(width n:Int)(w:World)(h:hw width=3):Calls prog 136 #[.int .i64 width,.int .i64 n] w (rW (.string (bs (rP 3 n))) w):=by
 have hmk:∀w:World,(Instr.makeSlice 101 (.int .i64 3) (.int .i64 3)).run prog w= .ok (.slice (some ⟨w.heap.size,0,none⟩) 3 3) (w.alloc (.cells #[.int .u8 0,.int .u8 0,.int .u8 0] 5)):=fun _=>by kernel_rfl
 have hcv:(convert 101 9 (.slice (some ⟨w.heap.size,0,none⟩) 3 3)).run prog (w.alloc (.cells #[.int .u8 (n/256/256%256),.int .u8 (n/256%256),.int .u8 (n%256)] 5))= .ok (.string (bs (rP 3 n))) (w.alloc (.cells #[.int .u8 (n/256/256%256),.int .u8 (n/256%256),.int .u8 (n%256)] 5)):=
  run_convert_bytes_arg _ 101 5 underlying101 underlying5 _ 0 3 3 [n/256/256%256,n/256%256,n%256] I (Ch w _ _ [n/256/256%256,n/256%256,n%256]) 9 underlying9
 have H:=Lib.hid h;clear h;go_enter func136,ntmps136;go_wp2_with fail;refine(zU _ _).mono ?_;rintro e w' ⟨rfl,rfl⟩;rw[H.out,show((3:Nat):Int)=3 from I];go_wp2_with fail;refine wp_loop_rounds 4 ?_;rw[rounds_succ];go_wp2_with fail;rw[rounds_succ];go_wp2_with fail;exact nA
theorem afw(width n:Int)(w:World)(h:hw width=4):Calls prog 136 #[.int .i64 width,.int .i64 n] w (rW (.string (bs (rP 4 n))) w):=by
 have hmk:∀w:World,(Instr.makeSlice 101 (.int .i64 4) (.int .i64 4)).run prog w= .ok (.slice (some ⟨w.heap.size,0,none⟩) 4 4) (w.alloc (.cells #[.int .u8 0,.int .u8 0,.int .u8 0,.int .u8 0] 5)):=fun _=>by kernel_rfl
 have hcv:(convert 101 9 (.slice (some ⟨w.heap.size,0,none⟩) 4 4)).run prog (w.alloc (.cells #[.int .u8 (n/256/256/256%256),.int .u8 (n/256/256%256),.int .u8 (n/256%256),.int .u8 (n%256)] 5))= .ok (.string (bs (rP 4 n))) (w.alloc (.cells #[.int .u8 (n/256/256/256%256),.int .u8 (n/256/256%256),.int .u8 (n/256%256),.int .u8 (n%256)] 5)):=
  run_convert_bytes_arg _ 101 5 underlying101 underlying5 _ 0 4 4 [n/256/256/256%256,n/256/256%256,n/256%256,n%256] I (Ch w _ _ [n/256/256/256%256,n/256/256%256,n/256%256,n%256]) 9 underlying9
 have H:=Lib.hid h;clear h;go_enter func136,ntmps136;go_wp2_with fail;refine(zU _ _).mono ?_;rintro e w' ⟨rfl,rfl⟩;rw[H.out,show((4:Nat):Int)=4 from I];go_wp2_with fail;refine wp_loop_rounds 5 ?_;rw[rounds_succ];go_wp2_with fail;rw[rounds_succ];go_wp2_with fail;rw[rounds_succ];go_wp2_with fail;exact nA
theorem tK(width n:Int)(w:World):Calls prog 136 #[.int .i64 width,.int .i64 n] w (rW (.string (bs (rP (hw width) n))) w):=by
 have h:hw width=0\/hw width=1\/hw width=2\/hw width=3\/hw width=4:=by have:=YE width;omega
 rcases h with h|h|h|h|h
 ·rw[h];exact afs width n w h
 ·rw[h];exact aft width n w h
 ·rw[h];exact afu width n w h
 ·rw[h];exact afv width n w h
 ·rw[h];exact afw width n w h
def ye(w:World)(g:Nat)(rest:List UInt8)(short:Bool):Prop:=N w g 284 [.string (bs rest),.bool short]
def Iv(v:Value)(g:Nat)(rest:List UInt8)(short:Bool)(w:World)(e:Ending)(w':World):Prop:=
 e= .returned v/\ye w' g rest short/\w.grownBy w' (some g)
def aep(rest:List UInt8)(w:World)(e:Ending)(w':World):Prop:=
 e= .returned (.pointer (some ⟨w.heap.size,0,none⟩))/\ye w' w.heap.size rest false/\ao w w'
theorem Ba(s:List UInt8)(w:World):Calls prog 171 #[.string (bs s)] w (aep s w):=by
 go_enter func171,ntmps171;go_wp2;go_ret;exact⟨I,N.new _ _ [.string (bs s),.bool false],(Below.refl _ _).alloc (Nat.le_refl _) _⟩
def xy(rest:List UInt8)(short:Bool)(n:Int):List UInt8:=if short||decide (rest.length<n.toNat)then[]else rest.take n.toNat
def ww(rest:List UInt8)(short:Bool)(n:Int):List UInt8:=if short||decide (rest.length<n.toNat)then rest else rest.drop n.toNat
def vY(rest:List UInt8)(short:Bool)(n:Int):Bool:=short||decide (rest.length<n.toNat)
theorem YF(g:Nat)(rest:List UInt8)(short:Bool)(n:Int)(w:World)(h:ye w g rest short)(E:rest.length<=maxLen):
  Calls prog 179 #[.pointer (some ⟨g,0,none⟩),.int .i64 n] w (Iv (.string (bs (xy rest short n))) g (ww rest short n) (vY rest short n) w):=by
 unfold maxLen at E;have c0:=h.rD 0 I;have c1:=h.rD 1 I;have f0:=h.frozen 0;have f1:=h.frozen 1;have hgl:=h.lt;cases short with
 |true=>go_enter func179,ntmps179;go_wp2;go_ret;exact⟨by simp[xy];rfl,by simpa[ye,ww,vY]using h,World.grownBy.refl _ _⟩
 |false=>
  by_cases aA:rest.length<n.toNat
  ·have hn:(rest.length:Int)<n:=Y;have hn0:0<=n:=Y;have T:=J aA;clear aA;go_enter func179,ntmps179;go_wp2;go_ret;exact⟨by simp[xy,T.out];rfl,by simpa[ye,ww,vY,T.out]using h.set 1 (.bool true),sd (World.grownBy.refl _ _) _ _⟩
  ·
   by_cases hn0:0<=n
   ·obtain⟨k,rfl⟩:=Int.eq_ofNat_of_zero_le hn0;have O:k<=rest.length:=Y;have hk':(k:Int)<=rest.length:=Y;have T:=J aA;clear aA;go_enter func179,ntmps179;go_wp2;go_ret;have ht:=T.out;rw[Int.toNat_natCast]at ht;exact⟨by simp[xy,ht],by simpa[ye,ww,vY,ht]using h.set 0 (.string (bs (rest.drop k))),sd (World.grownBy.refl _ _) _ _⟩
   ·have hn:n<0:=Y;have T:=J aA;clear aA hn0;go_enter func179,ntmps179;go_wp2;go_ret;have ht:n.toNat=0:=Y;exact⟨by simp[xy,ht];rfl,by simpa[ye,ww,vY,ht]using h.set 0 (.string (bs rest)),sd (World.grownBy.refl _ _) _ _⟩
theorem Iw(g:Nat)(rest:List UInt8)(short:Bool)(w:World)(h:ye w g rest short):
  Calls prog 197 #[.pointer (some ⟨g,0,none⟩)] w (uQ (.int .i64 rest.length) w):=by
 have c0:=h.rD 0 I;go_enter func197,ntmps197;go_wp2;exact mY
theorem En(g:Nat)(rest:List UInt8)(short:Bool)(w:World)(h:ye w g rest short):
  Calls prog 196 #[.pointer (some ⟨g,0,none⟩)] w (uQ (.int .i64 (if short then 1 else 0)) w):=by
 have c1:=h.rD 1 I;cases short;all_goals
  go_enter func196,ntmps196;go_wp2;exact mY
def Wg(rest:List UInt8)(short:Bool):Int:=if short then 1 else if rest=[]then 0 else 2
theorem ab1(g:Nat)(rest:List UInt8)(short:Bool)(w:World)(h:ye w g rest short):
  Calls prog 198 #[.pointer (some ⟨g,0,none⟩)] w (uQ (.int .i64 (Wg rest short)) w):=by
 cases short with
 |true=>go_enter func198,ntmps198;go_wp2_with(go_at_call 196;refine(En _ _ _ _ h).mono ?_;rintro e w' ⟨rfl,rfl⟩);exact mY
 |false=>
  rcases rest with _|⟨c,rest⟩
  ·go_enter func198,ntmps198;go_wp2_with(first|(go_at_call 196;refine(En _ _ _ _ h).mono ?_;rintro e w' ⟨rfl,rfl⟩)|(go_at_call 197;refine(Iw _ _ _ _ h).mono ?_;rintro e w' ⟨rfl,rfl⟩));exact mY
  ·go_enter func198,ntmps198;go_wp2_with(first|(go_at_call 196;refine(En _ _ _ _ h).mono ?_;rintro e w' ⟨rfl,rfl⟩)|(go_at_call 197;refine(Iw _ _ _ _ h).mono ?_;rintro e w' ⟨rfl,rfl⟩));exact mY
theorem Wh(l:List UInt8)(k:Nat)(h:k<l.length):sY (l.take (k+1))=256*sY (l.take k)+l[k].toNat:=by
 rw[List.take_succ_eq_append_getElem h,KX]
theorem yU(l:List UInt8)(n:Nat)(h:l.length<=n):sY l<256^n:=Nat.lt_of_lt_of_le (ab0 l) (Nat.pow_le_pow_right K h)
theorem YG(l:List UInt8)(h:l.length<=4):sY l<4294967296:=yU l 4 h
theorem aeq(n:Nat)(c:Nat)(hn:n<4294967296)(hc:c<256):bits .or .i64 ((n:Int)*256) (c:Int)=(256*(n:Int)+c):=by
 have e1:((n:Int)*256)=((n*256:Nat):Int):=Y;have e2:(n*256)|||c=256*n+c:=by have:=Nat.two_pow_add_eq_or_of_lt (i:=8) (b:=c) Y n;rw[Nat.mul_comm n 256];exact this.symm
 rw[e1];show IntKind.i64.wrap ((BitVec.ofInt 64 ((n*256:Nat):Int)|||BitVec.ofInt 64 (c:Int)).toNat:Int)=_;rw[BitVec.toNat_or,BitVec.ofInt_natCast,BitVec.ofInt_natCast,BitVec.toNat_ofNat,BitVec.toNat_ofNat,Nat.mod_eq_of_lt Y,Nat.mod_eq_of_lt Y,e2,IntKind.wrap_i64];omega
theorem Hx(g:Nat)(rest:List UInt8)(short:Bool)(width:Int)(w:World)(h:ye w g rest short)(E:rest.length<=maxLen):
  Calls prog 172 #[.pointer (some ⟨g,0,none⟩),.int .i64 width] w (Iv (.int .i64 (sY (xy rest short (hw width)))) g (ww rest short (hw width)) (vY rest short (hw width)) w):=by
 have ht:(xy rest short (hw width)).length<=4:=by have:=YE width;unfold xy;split<;>simp<;>omega
 go_enter func172,ntmps172;go_wp2_with fail;refine(zU _ _).mono ?_;rintro e w' ⟨rfl,rfl⟩;go_wp2_with fail;refine(YF g rest short _ _ h E).mono ?_;rintro e B ⟨rfl,U,hg1⟩;generalize xy rest short (hw width)=l at*;go_wp2_with(refine Iu _ I (.tmp 11) 9 101 5 I underlying9 underlying101 underlying5 l I ?_);intro cap w2 aii hby hb2 hsz;go_wp2_with fail;go_loop[5,7,14] (fun n _ i=>∃k:Nat,k<=l.length/\i= .int .i64 k/\n= .int .i64 (sY (l.take k))) (fun _ _ i=>l.length-(intOf i).toNat)
 case atStart=>exact⟨0,Nat.zero_le _,I,I⟩
 case round=>
  obtain⟨k,O,rfl,rfl⟩:=hrel;have Z:=YG (l.take k) aB;by_cases aA:k<l.length
  ·
   have hs:=J (Wh l k aA);have h1:(k:Int)<l.length:=Y;have hc:l[k].toNat<256:=l[k].toNat_lt;have afQ:=hby.rU k aA;rw[Nat.zero_add]at afQ;go_wp2;go_round
   case rel=>exact⟨k+1,Y,fQ,by rw[aeq _ _ Z hc,hs.out];go_num⟩
   case measure=>simp[intOf];omega
  ·have h1:¬(k:Int)<l.length:=Y;go_wp2;go_ret;exact⟨wv fL,U.G hb2 U.lt,tO hg1 hb2⟩
theorem ofNat_mod(n:Int):((UInt8.ofNat (n%256).toNat).toNat:Int)=n%256:=by
 rw[UInt8.toNat_ofNat'];omega
theorem Fv:∀(k:Nat) (n:Int),(sY (rP k n):Int)=n% (256^k:Nat):=by
 intro k;induction k with
 |zero=>intro n;simp[rP,sY]
 |succ k ih=>
  intro n;have U:=ih (n/256);have F:=ofNat_mod n;rw[rP,KX];have hp:0<256^k:=Nat.pow_pos K;generalize hq:256^k=m at*;have e:n% ((256*m:Nat):Int)=256*(n/256% (m:Int))+n%256:=by
   have hm:(0:Int)<m:=Y;have b1:=Int.emod_nonneg (n/256) (show(m:Int)≠0 by omega);have b2:=Int.emod_lt_of_pos (n/256) hm;have d:=Int.emod_add_mul_ediv (n/256) m;have key:n=(256*(n/256% (m:Int))+n%256)+((256*m:Nat):Int)*(n/256/m):=by
    have:((256*m:Nat):Int)*(n/256/m)=256*((m:Int)*(n/256/m)):=by rw[Int.natCast_mul];exact Int.mul_assoc _ _ _
    rw[this];omega
   have:n% ((256*m:Nat):Int)=(256*(n/256% (m:Int))+n%256)% ((256*m:Nat):Int):=by
    conv=>lhs;rw[key]
    exact Int.add_mul_emod_self_left _ _ _
   rw[this];exact Int.emod_eq_of_lt Y Y
  rw[Nat.pow_succ,hq,Nat.mul_comm m 256,e];omega
def xE(l:List UInt8):List UInt8:=UInt8.ofNat l.length::l
def uI(n:List (List UInt8)):List UInt8:=n.flatMap xE
theorem Ci(l:List UInt8):(xE l).length=l.length+1:=by simp[xE]
@[simp] theorem afx:uI []=[]:=rfl
theorem yZ(l:List UInt8)(n:List (List UInt8)):uI (l::n)=xE l++uI n:=by simp[uI]
theorem Ix(a b:List (List UInt8)):uI (a++b)=uI a++uI b:=by simp[uI]
def sq:List (List UInt8)->Nat
 |[]=>0
 |l::n=>l.length+1+sq n
theorem Eo(a b:List (List UInt8)):sq (a++b)=sq a+sq b:=by
 induction a with
 |nil=>simp[sq]
 |cons l a ih=>simp[sq,ih];omega
theorem tP(n:List (List UInt8)):(uI n).length=sq n:=by
 induction n with
 |nil=>rfl
 |cons l n ih=>rw[yZ,List.length_append,Ci,ih,sq]
theorem yV(n:List (List UInt8)):n.length<=sq n:=by
 induction n with
 |nil=>simp
 |cons l n ih=>simp[sq];omega
theorem Fw(n:List (List UInt8))(k:Nat)(h:k<n.length):sq (n.take (k+1))=sq (n.take k)+(n[k].length+1):=by
 rw[List.take_succ_eq_append_getElem h,Eo];simp[sq]
theorem vK(n:List (List UInt8))(k:Nat):sq (n.take k)<=sq n:=by
 have:=Eo (n.take k) (n.drop k);rw[List.take_append_drop]at this;omega
def zV(l:List UInt8):Bool:=decide (l.length<1)||decide (63<l.length)
def rR(n:List (List UInt8)):Int:=if n.any zV then 7 else if 255<1+sq n then 3 else 0
theorem ud{n:List (List UInt8)}(h:rR n=0):(∀l∈n,1<=l.length/\l.length<=63)/\1+sq n<=255:=by
 unfold rR at h;split at h
 ·cases h
 ·
  rename_i ha;split at h
  ·cases h
  ·
   refine⟨fun l E=>?_,Y⟩;have Z:zV l=false:=by
    cases h:zV l with
    |false=>rfl
    |true=>exact absurd (List.any_eq_true.2 ⟨l,E,h⟩) ha
   simp[zV]at Z;cases l with
   |nil=>simp at Z
   |cons x l=>simp at Z⊢;omega
theorem Iy{n:List (List UInt8)}(h:∀l∈n,1<=l.length/\l.length<=63)(hs:1+sq n<=255):rR n=0:=by
 unfold rR;have:n.any zV=false:=by rw[List.any_eq_false];intro l E;have:=h l E;rw[zV,decide_eq_false Y,decide_eq_false Y];simp
 rw[this,if_neg ar,if_neg Y]
def wJ(n:List (List UInt8)):Prop:=∀l∈n,1<=l.length/\l.length<=63
theorem wJ.tail{l:List UInt8}{n:List (List UInt8)}(h:wJ (l::n)):wJ n:=fun x hx=>h x (List.mem_cons_of_mem _ hx)
theorem wJ.drop{n:List (List UInt8)}(h:wJ n)(k:Nat):wJ (n.drop k):=fun x hx=>h x (List.mem_of_mem_drop hx)
theorem wl{k:Nat}(h:k<=255):(UInt8.ofNat k).toNat=k:=by
 rw[UInt8.toNat_ofNat'];exact Nat.mod_eq_of_lt Y
theorem YH:∀(a b:List (List UInt8)),wJ a->wJ b->uI a=uI b->a=b:=by
 intro a;induction a with
 |nil=>
  intro b _ _ h;cases b with
  |nil=>rfl
  |cons y b=>rw[yZ]at h;simp[xE]at h
 |cons x a ih=>
  intro b ga gb h;cases b with
  |nil=>rw[yZ]at h;simp[xE]at h
  |cons y b=>
   rw[yZ,yZ]at h;simp only[xE,List.cons_append,List.cons.injEq]at h;obtain⟨U,F⟩:=h;have gx:=ga x (List.mem_cons_self ..);have gy:=gb y (List.mem_cons_self ..);have E:x.length=y.length:=by have:=congrArg UInt8.toNat U;rwa[wl Y,wl Y]at this
   obtain⟨e1,e2⟩:=List.append_inj F E;rw[e1,ih b ga.tail gb.tail e2]
def look(T:List (List (List UInt8)×Nat))(n:List (List UInt8)):Option Nat:=(T.find? fun r=>r.1==n).map (·.2)
def low(rU:Int)(k:Nat):Bool:=decide (0<=rU)&&decide (rU<16384)&&decide (rU+k<16384)
theorem Ep(rU:Int)(k:Nat):low rU k=true↔0<=rU/\rU<16384/\rU+k<16384:=by simp[low,and_assoc]
def DH(T:List (List (List UInt8)×Nat))(rU:Int)(pre:List UInt8):List (List UInt8)->List UInt8×List (List (List UInt8)×Nat)
 |[]=>(pre++[0],[])
 |l::n=>match look T (l::n)with
  |some q0=>(pre++rP 2 (49152+q0),[])
  |none=>((DH T rU (pre++xE l) n).1,(if low rU pre.length then[(l::n,(rU+pre.length).toNat)]else[])++(DH T rU (pre++xE l) n).2)
theorem Es{T:List (List (List UInt8)×Nat)}{rU:Int}{pre l:List UInt8}{n:List (List UInt8)}{q0:Nat}(h:look T (l::n)=some q0):DH T rU pre (l::n)=(pre++rP 2 (49152+q0),[]):=by
 rw[DH,h]
theorem Iz{T:List (List (List UInt8)×Nat)}{rU:Int}{pre l:List UInt8}{n:List (List UInt8)}(h:look T (l::n)=none):DH T rU pre (l::n)=((DH T rU (pre++xE l) n).1,(if low rU pre.length then[(l::n,(rU+pre.length).toNat)]else[])++(DH T rU (pre++xE l) n).2):=by
 rw[DH,h]
theorem DI(T awr:List (List (List UInt8)×Nat))(n:List (List UInt8))(h:∀r∈awr,r.1≠n):look (T++awr) n=look T n:=by
 unfold look;rw[List.find?_append];have:awr.find? (fun r=>r.1==n)=none:=by rw[List.find?_eq_none];intro r hr;simpa using h r hr
 rw[this];simp
theorem Pt{T:List (List (List UInt8)×Nat)}{n:List (List UInt8)}{q:Nat}(h:look T n=some q):(n,q)∈T:=by
 unfold look at h;rw[Option.map_eq_some_iff]at h;obtain⟨r,hr,rfl⟩:=h;have U:=List.find?_some hr;have F:=List.mem_of_find?_eq_some hr;have:r.1=n:=iJ;rw[<-this];exact F
inductive Rd (m:List UInt8):Nat->Nat->List (List UInt8)->Nat->Prop where
 |nil {b p}:p<m.length->(m.getD p 0).toNat=0->Rd m b p [] (p+1)
 |cons {b p l n e}:p<m.length->(m.getD p 0).toNat=l.length->1<=l.length->l.length<=63->p+1+l.length<=m.length->(m.take (p+1+l.length)).drop (p+1)=l->Rd m b (p+1+l.length) n e->Rd m b p (l::n) e
 |ptr {b p q n e}:p+1<m.length->192<=(m.getD p 0).toNat->(m.getD p 0).toNat*256+(m.getD (p+1) 0).toNat-49152=q->q<b->Rd m q q n e->Rd m b p n (p+2)
theorem Et(m y:List UInt8)(p:Nat)(h:p<m.length):(m++y).getD p 0=m.getD p 0:=by
 simp[List.getD,List.getElem?_append_left h]
theorem Rd.Ce{b p:Nat}{n:List (List UInt8)}{e:Nat}(h:Rd m b p n e)(y:List UInt8):Rd (m++y) b p n e:=by
 induction h with
 |nil U F=>exact .nil aB aC
 |cons U F h3 h4 h5 h6 _ ih=>exact .cons aB aC h3 h4 aB (by rw[List.take_append_of_le_length h5];exact h6) ih
 |ptr U F h3 h4 _ ih=>exact .ptr aB (by rw[Et _ _ _ Y];exact F) (by rw[Et _ _ _ Y,Et _ _ _ U];exact h3) h4 ih
theorem Rd.mono{b p:Nat}{n:List (List UInt8)}{e:Nat}(h:Rd m b p n e):∀b',b<=b'->Rd m b' p n e:=by
 induction h with
 |nil U F=>intro b' Z;exact .nil U F
 |cons U F h3 h4 h5 h6 _ ih=>intro b' Z;exact .cons U F h3 h4 h5 h6 (ih b' Z)
 |ptr U F h3 h4 h5 ih=>intro b' Z;exact .ptr U F h3 Y h5
def Cj(m:List UInt8)(T:List (List (List UInt8)×Nat)):Prop:=∀r∈T,r.1≠[]/\r.2<16384/\r.2<m.length/\∃e,Rd m r.2 r.2 r.1 e
theorem Cj.Ce{T:List (List (List UInt8)×Nat)}(h:Cj m T)(y:List UInt8):Cj (m++y) T:=by
 intro r hr;obtain⟨U,F,h3,e,h4⟩:=h r hr;exact⟨U,F,aB,e,h4.Ce y⟩
theorem YI(q0:Nat)(h:q0<16384):rP 2 (49152+q0)=[UInt8.ofNat (192+q0/256),UInt8.ofNat (q0%256)]:=by
 have e1:((49152+(q0:Int))/256%256).toNat=192+q0/256:=Y;have e2:((49152+(q0:Int))%256).toNat=q0%256:=Y;simp[rP,e1,e2]
theorem Hy(x y:List UInt8)(c:UInt8):(x++c::y).getD x.length 0=c:=by simp[List.getD]
theorem YJ(x y:List UInt8)(c d:UInt8):(x++c::d::y).getD (x.length+1) 0=d:=by simp[List.getD]
theorem YK(q0:Nat)(h:q0<16384):(UInt8.ofNat (192+q0/256)).toNat*256+(UInt8.ofNat (q0%256)).toNat-49152=q0:=by
 rw[wl Y,wl Y];omega
theorem aer(T:List (List (List UInt8)×Nat))(first:List UInt8)(hT:Cj first T):∀(n:List (List UInt8)) (pre:List UInt8),wJ n->
  (∃a,(DH T first.length pre n).1=pre++a/\a.length<=sq n+1/\1<=a.length/\∀b,first.length<=b->Rd (first++(pre++a)) b (first.length+pre.length) n (first.length+pre.length+a.length))/\
  Cj (first++(DH T first.length pre n).1) (DH T first.length pre n).2:=by
 intro n;induction n with
 |nil=>intro pre _;refine⟨⟨[0],I,by simp[sq],ar,fun b _=>?_⟩,by simp[DH,Cj]⟩;refine .nil ar ?_;rw[<-List.append_assoc,<-List.length_append,Hy];rfl
 |cons l n ih=>
  intro pre hg;have E:=hg l (List.mem_cons_self ..);cases O:look T (l::n)with
  |some q0=>
   rw[Es O];have hm:=Pt O;obtain⟨U,F,h3,e,h4⟩:=hT _ hm;simp only at U F h3 h4;simp only;refine⟨⟨rP 2 (49152+q0),I,by rw[rL];simp[sq];omega,by rw[rL];omega,fun b Z=>?_⟩,by simp[Cj]⟩;rw[rL,YI q0 F];refine .ptr (q:=q0) (e:=e) aB ?_ ?_ Y ?_
   ·rw[<-List.append_assoc,<-List.length_append,Hy,wl Y];omega
   ·rw[<-List.append_assoc,<-List.length_append,Hy,YJ];exact YK q0 F
   ·exact h4.Ce _
  |none=>
   rw[Iz O];obtain⟨⟨a,ha,hla,aLw,hr⟩,ht⟩:=ih (pre++xE l) hg.tail;have hR:∀b,first.length<=b->Rd (first++(pre++(xE l++a))) b (first.length+pre.length) (l::n) (first.length+pre.length+(xE l++a).length):=by
    intro b Z;have:=hr b Z;rw[List.append_assoc]at this;rw[show first.length+(pre++xE l).length=first.length+pre.length+1+l.length by simp[xE];omega]at this;rw[show first.length+pre.length+(xE l++a).length=first.length+pre.length+1+l.length+a.length by simp[xE];omega];refine .cons (by simp[xE]) ?_ E.1 E.2 (by simp[xE];omega) ?_ this
    ·rw[<-List.append_assoc,<-List.length_append];simp only[xE,List.cons_append];rw[Hy,wl Y]
    ·
     have e1:first++(pre++(xE l++a))=(first++pre++[UInt8.ofNat l.length])++(l++a):=by simp[xE]
     have e2:first.length+pre.length+1=(first++pre++[UInt8.ofNat l.length]).length:=aB;rw[e1,e2,List.drop_take,List.drop_left,Nat.add_sub_cancel_left,List.take_left]
   refine⟨⟨xE l++a,by rw[ha];simp,by rw[List.length_append,Ci,sq];omega,by rw[List.length_append];omega,hR⟩,?_⟩;intro r hr';rcases List.mem_append.1 hr' with h|h
   ·
    by_cases hc:low first.length pre.length=true
    ·
     rw[if_pos hc,List.mem_singleton]at h;have hc':=(Ep _ _).1 hc;have e:(((first.length:Int))+(pre.length:Int)).toNat=first.length+pre.length:=Y;rw[e]at h;rw[h];refine⟨ar,Y,?_,first.length+pre.length+(xE l++a).length,?_⟩
     ·rw[ha];simp[xE]
     ·rw[ha,List.append_assoc];exact hR _ Y
    ·rw[if_neg hc]at h;cases h
   ·exact ht r h
theorem YL(rU:Int):∀(n:List (List UInt8)) (pre:List UInt8),(DH [] rU pre n).1=pre++uI n++[0]:=by
 intro n;induction n with
 |nil=>intro pre;simp[DH]
 |cons l n ih=>intro pre;rw[Iz I,ih,yZ];simp
theorem xK:(prog.info? 9).map (fun i=>(i.zero,i.size,i.bytes))=some (some (.string ⟨#[]⟩),1,16):=by kernel_rfl
def tw(w:World)(v:Value)(l:List (List UInt8)):Prop:=w.ownsRow 0 9 1 v l.length (l.map fun t=>Value.string (bs t))
theorem tw.nil(w:World):tw w (.slice none 0 0) []:=World.ownsRow_nil _ _ _ _
theorem tw.G{l:List (List UInt8)}(h:tw w v l)(Z:ao w w'):tw w' v l:=by
 refine World.ownsRow.kept h (r5 Z none) ?_;cases hv:v.ownBlock with
 |none=>exact .inl I
 |some g=>exact .inr ar
theorem tw.grown{l:List (List UInt8)}{k:Nat}(h:tw w v l)(hg:w.grownBy w' (some k))(O:N w k t cs)(ht:t≠9):tw w' v l:=by
 refine World.ownsRow.kept h hg ?_;cases hv:v.ownBlock with
 |none=>exact .inl I
 |some g=>
  refine .inr ?_;intro e;injection e with e;subst e;rcases h.2 with⟨rfl,_⟩|⟨g',cap,cur,rfl,_,hh,_⟩
  ·simp[Value.ownBlock]at hv
  ·have:g'=g:=lr;subst this;unfold N at O;rw[hh]at O;injection O with O;injection O with _ he;exact ht he.symm
theorem Wi{e:TypeId}{size n:Nat}{xs:List Value}(h:w.ownsRow 0 e size v n xs)(hg:w.grownBy w' v.ownBlock):∀j t cs,t≠e->N w j t cs->N w' j t cs:=by
 intro j t cs hl Z;refine Z.grown hg ?_;rcases h.2 with⟨rfl,_⟩|⟨g',cap,cur,rfl,_,hh,_⟩
 ·simp[Value.ownBlock]
 ·intro he;have:j=g':=jp;exact pM
def zN(w:World)(A:Option Addr)(l:List (List UInt8)):Prop:=0<l.length->∃b off,A=some ⟨b,off,none⟩/\b<w.heap.size/\∀i (hi:i<l.length),w.cell? ⟨b,off+i,none⟩=some (.string (bs l[i]))
theorem tw.form{l:List (List UInt8)}(h:tw w v l):∃A c,v= .slice A l.length c/\zN w A l/\l.length<=c:=by
 rcases h.2 with⟨rfl,h0⟩|⟨g,cap,cur,rfl,_,hh,hnc,_⟩
 ·refine⟨none,0,?_,fun hp=>absurd hp Y,Y⟩;rw[h0]
 ·
  refine⟨some ⟨g,0,none⟩,cap,I,fun _=>⟨g,0,I,?_,fun i hi=>?_⟩,hnc⟩
  ·
   rcases Nat.lt_or_ge g w.heap.size with aA|hge
   ·exact aA
   ·rw[Array.getElem?_eq_none hge]at hh;cases hh
  ·have:=World.ownsRow.cellAt h i Y;rw[Nat.zero_add,this];simp[hi]
theorem zN.G{A:Option Addr}{l:List (List UInt8)}(h:zN w A l)(Z:ao w w'):zN w' A l:=by
 intro hp;obtain⟨b,off,hA,aA,hc⟩:=h hp;exact⟨b,off,hA,Nat.lt_of_lt_of_le aA Z.size,fun i hi=>(Z.cell aA).trans (hc i hi)⟩
theorem YM(A Hh:Option Addr)(a b:List (List UInt8))(ca cb:Nat)(w:World)(hA:zN w A a)(hB:zN w Hh b)(hm:a.length<=281474976710656)(hm2:b.length<=281474976710656):
  Calls prog 41 #[.slice A a.length ca,.slice Hh b.length cb] w (rW (.bool (decide (a=b))) w):=by
 by_cases E:a.length=b.length
 ·
  have hl1:((a.length:Int) !=b.length)=false:=by simp[E]
  have HL:=J E;have hle:a.length<=b.length:=Y;clear E;go_enter func41,ntmps41;go_wp2_with fail;go_loopw[5] (fun i wr=>∃k:Nat,k<=a.length/\i= .int .i64 k/\a.take k=b.take k/\∃n,wr=w.drewN n) (fun i _=>a.length-(intOf i).toNat)
  case atStart=>exact⟨0,Y,I,ar,0,I⟩
  case round=>
   obtain⟨k,O,rfl,htk,n,rfl⟩:=hrel;have TK:=J htk;clear htk;by_cases aA:k<a.length
   ·
    have h1:(k:Int)<a.length:=Y;have hlb:k<b.length:=Y;have aLl:(k:Int)<b.length:=Y;obtain⟨ba,oa,rfl,la,xa⟩:=hA Y;obtain⟨bb,ob,rfl,lb,xb⟩:=hB Y;have c1:=xa k aA;have c2:=xb k hlb;clear xa xb;by_cases he:a[k]=b[k]
    ·
     have e1:(a[k]==b[k])=true:=iu;have HE:=J he;clear he;go_wp2_with fail;go_quiet(fail);go_wp2_with fail;go_roundw
     case rel=>refine⟨k+1,Y,fQ,?_,_,I⟩;rw[List.take_succ_eq_append_getElem aA,List.take_succ_eq_append_getElem hlb,TK.out,HE.out]
     case measure=>simp[intOf];omega
    ·
     have e1:(a[k]==b[k])=false:=iu;have hl:decide (a=b)=false:=by rw[decide_eq_false_iff_not];rintro rfl;exact he I
     have HN:=J hl;clear he hl;go_wp2_with fail;go_quiet(fail);go_wp2_with fail;go_ret;exact rW.mk (xJ HN.out.symm) (below_drewN (below_drewN (Below.refl _ _) _) _)
   ·
    have h1:¬(k:Int)<a.length:=Y;have hab:decide (a=b)=true:=by have U:=TK.out;rw[List.take_of_length_le Y,List.take_of_length_le (by have:=HL.out;omega)]at U;simpa using U
    have HN:=J hab;clear hab;go_wp2_with fail;go_ret;exact rW.mk (xJ HN.out.symm) (below_drewN (Below.refl _ _) _)
 ·
  have hl1:((a.length:Int) !=b.length)=true:=aB;have hl:decide (a=b)=false:=by rw[decide_eq_false_iff_not];rintro rfl;exact E I
  rw[hl];clear hl;go_enter func41,ntmps41;go_wp2_with fail;go_ret;exact nH
def sN(l:List UInt8):List Value:=l.map fun b=>Value.int .u8 (b.toNat:Int)
theorem sI(l:List UInt8):(sN l).length=l.length:=by simp[sN]
theorem xL(a b:List UInt8):sN (a++b)=sN a++sN b:=by simp[sN]
theorem zW(l:List UInt8)(j:Nat)(h:j<l.length):(sN l)[j]?=some (.int .u8 (l[j].toNat:Int)):=by simp[sN,h]
theorem xf:(prog.info? 5).map (fun i=>(i.zero,i.size,i.bytes))=some (some (.int .u8 0),1,1):=by kernel_rfl
theorem byteSize:(prog.info? 5).map (·.size)=some 1:=by kernel_rfl
theorem Pu:prog.cellsOf 5=1:=by kernel_rfl
theorem IA(z:Value)(n:Nat)(h:z.cells= #[z]):(madeCells z.cells n).toList=List.replicate n z:=by
 rw[h];simp[madeCells,Nat.mod_one,List.map_const']
theorem GI(n:Nat)(hn:n<=281474976710656)(W:World):(Instr.makeSlice 101 (.int .i64 (n:Int)) (.int .i64 (n:Int))).run prog W= .ok (.slice (some ⟨W.heap.size,0,none⟩) n n) (W.alloc (.cells (sN (List.replicate n 0)).toArray 5)):=by
 obtain⟨i0,hi,hz0,hz1,hz2⟩:=info_parts xf;have h:=run_make (P:=prog) W 101 5 i0 (.int .u8 0) underlying101 hi hz0 .i64 .i64 (n:Int) (n:Int) Y Y (by rw[hz2];omega) Y;rw[hz1]at h;have e:(madeCells (Value.int .u8 0).cells (((n:Nat):Int).toNat*1))=(sN (List.replicate n 0)).toArray:=by have:=IA (.int .u8 0) n I;rw[Int.toNat_natCast,Nat.mul_one];apply Array.toList_inj.1;rw[this];simp[sN]
 rw[e]at h;simpa using h
theorem DL(h:N w g t cs)(ds:List Value):N (w.setRow g ds.toArray) g t ds:=setRow_heap _ _ cs.toArray _ t (0,0) h
theorem S0{g':Nat}(h:N w g t cs)(ds:Array Value)(hl:g≠g'):N (w.setRow g' ds) g t cs:=(setRow_other _ _ _ _ hl).trans h
theorem below_setRow(h:Below Hh a w)(hg:Hh<=g)(ds:Array Value):Below Hh a (w.setRow g ds):=
 h.trans ⟨I,I,I,ar,fun k O=>setRow_other _ _ _ _ Y⟩
theorem Eu(W:World)(g o len cap:Nat)(s:List UInt8)(cs:List Value)(h:N W g 5 cs)(hle:s.length<=len)(arD:o+s.length<=cs.length):
  (Builtin.copy_ #[101,9] 3 #[.slice (some ⟨g,o,none⟩) len cap,.string (bs s)]).run prog W= .ok (.int .i64 s.length) (W.setRow g (cs.take o++sN s++cs.drop (o+s.length)).toArray):=by
 have:=Lib.run_copy_row_string (P:=prog) W 101 9 3 5 g o len cap (bs s) cs.toArray 5 underlying101 byteSize h (by simpa using hle) (by simpa using arD);rw[this];simp[goInt,bs,Lib.byteCells,sN,ByteArray.size]
theorem IB(W:World)(g cap:Nat)(l:List UInt8)(cs:List Value)(h:N W g 5 cs)(E:cs.take l.length=sN l):
  (convert 101 9 (.slice (some ⟨g,0,none⟩) l.length cap)).run prog W= .ok (.string (bs l)) W:=by
 refine run_convert_bytes_back W 101 9 5 ⟨g,0,none⟩ cap l underlying101 underlying5 underlying9 ?_;intro j hj;have hc:=h.cell j;have e:cs[j]?=(cs.take l.length)[j]?:=by rw[List.getElem?_take_of_lt hj]
 rw[e,E,zW l j hj]at hc;rw[<-hc];congr 1;unfold Addr.add;split<;>simp_all
end Go.Proofs.YtakkipnmpmobbaaGreat
