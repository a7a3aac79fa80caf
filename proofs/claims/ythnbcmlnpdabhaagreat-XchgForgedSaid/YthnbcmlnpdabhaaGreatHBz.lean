/-
  Layer 14 (message):Check.
-/
import Derived.Test.YthnbcmlnpdabhaaGreatHAz
import Derived.Test.YthnbcmlnpdabhaaGreatGW2z
namespace Go.Proofs.YthnbcmlnpdabhaaGreat
open _root_.Go.Proofs.Tryz
set_option maxHeartbeats 8000000
open Go.RowKit
set_option maxRecDepth 100000
set_option linter.unusedVariables false
set_option linter.unusedSimpArgs false
variable {w w':World} {cs:List Value} {lo g:Nat}
theorem Lm(cs:List Value)(m:vo)(Aq Aa Au Ae:Option Addr)(cq ca cu ce:Nat)(w:World)(h:yZ w cs m Aq Aa Au Ae cq ca cu ce):
  Calls prog 165 #[.agg cs.toArray] w (uf (.int .i64 (vU m)) w):=by
 have hcs:=h.hcs;have hl:cs.length=14:=iB;have L10:cs[10]?=some (.slice Aq m.qs.length cq):=bI;have LH:(cs.drop 0).take 10=m.hd.vJ:=bI;have LI:=Y (fun w=>Nu m.hd (.slice Aq m.qs.length cq) Aa Au Ae m.an.length m.au.length m.ex.length ca cu ce w);rw[<-hcs]at LI;have CH:Hid (∀w,Calls prog 203 #[.agg m.hd.vJ.toArray] w (uf (.int .i64 (if m.hd.ok then 0 else 4)) w)):=Y (fun w=>z5 m.hd w);have lq:=h.lq;have la:=h.la;have lu:=h.lu;have le:=h.le;have hq:=h.hq;have ha:=h.ha;have hu:=h.hu;have he:=h.he;have HE:=Y (Wj m);have FQ:=Y (Ff qE m.qs);have FQ':=Y (Dh qE m.qs);have FA:=Y (Ff uk m.an);have FA':=Y (Dh uk m.an);have FU:=Y (Ff uk m.au);have FU':=Y (Dh uk m.au);have FE:=Y (Ff uk m.ex);have FE':=Y (Dh uk m.ex);clear h hcs;generalize vU m=res at*;generalize xK (m.qs.map qE)=fq at*;generalize xK (m.an.map uk)=fa at*;generalize xK (m.au.map uk)=fu at*;generalize xK (m.ex.map uk)=fe at*;generalize m.hd.vJ=HV,m.hd.ok=ok at*;generalize m.qs=Q,m.an=LA at*;generalize m.au=LU,m.ex=LE at*;have B0:=Z.new w 50 cs;have HB0:Below w.heap.size w (w.alloc (.cells cs.toArray 50)):=gj;go_enter func165,ntmps165;go_wp2_with(refine tO (.load 46 (.tmp 14)) J ?_;go_must(refine tP J _ _ J w.heap.size 0 J B0 10 I _ underlying46 J Cf HV LH ?_));go_wp2_with fail;refine(CH.out _).mono ?_;rintro _ w1 ⟨rfl,b1⟩;have B1:=B0.G b1 B0.lt;have HB1:=tL HB0 HB0.size b1;clear B0 HB0 b1 CH;cases ok with
 |false=>have hr0:=HE.out.trans (if_pos J);subst hr0;clear HE;exact sH
 |true=>
 have HE1:=Y (HE.out.trans (if_neg ap));clear HE;have c10:=B1.K 10 L10;by_cases U:65535<Q.length
 case pos=>have h1':(65535:Int)<Q.length:=I;have hr0:=HE1.out.trans (if_pos (.inl U));subst hr0;clear HE1 U;exact sH
 have h1':¬(65535:Int)<Q.length:=I;go_wp2_with(refine tO (.load 50 (.tmp 1)) J ?_;go_must(refine tP J _ _ J w.heap.size 0 J B1 14 I _ underlying50 J ux cs (wg I) ?_));go_wp2_with fail;refine(LI.out _).mono ?_;rintro _ w2 ⟨rfl,b2⟩;have B2:=B1.G b2 B1.lt;have hk:=tL HB1 HB1.size b2;clear B1 HB1 b2 c10;have I0:∀w:World,(Instr.index 281 (.agg #[.slice Aa LA.length ca,.slice Au LU.length cu,.slice Ae LE.length ce]) (.int .i64 0)).run prog w= .ok (.slice Aa LA.length ca) w:=fun _=>by kernel_rfl
 have I1:∀w:World,(Instr.index 281 (.agg #[.slice Aa LA.length ca,.slice Au LU.length cu,.slice Ae LE.length ce]) (.int .i64 1)).run prog w= .ok (.slice Au LU.length cu) w:=fun _=>by kernel_rfl
 have I2:∀w:World,(Instr.index 281 (.agg #[.slice Aa LA.length ca,.slice Au LU.length cu,.slice Ae LE.length ce]) (.int .i64 2)).run prog w= .ok (.slice Ae LE.length ce) w:=fun _=>by kernel_rfl
 go_wp2_with fail;refine wp_loop_rounds 4 ?_;rw[rounds_succ];by_cases X:65535<LA.length
 case pos=>have h2':(65535:Int)<LA.length:=I;have hr0:=HE1.out.trans (if_pos (.inr (.inl X)));subst hr0;clear HE1 X U;exact pW
 have h2':¬(65535:Int)<LA.length:=I;go_wp2_with fail;rw[rounds_succ];by_cases h3:65535<LU.length
 case pos=>have h3':(65535:Int)<LU.length:=I;have hr0:=HE1.out.trans (if_pos (.inr (.inr (.inl h3))));subst hr0;clear HE1 h3 X U;exact pW
 have h3':¬(65535:Int)<LU.length:=I;go_wp2_with fail;rw[rounds_succ];by_cases h4:65535<LE.length
 case pos=>have h4':(65535:Int)<LE.length:=I;have hr0:=HE1.out.trans (if_pos (.inr (.inr (.inr h4))));subst hr0;clear HE1 h4 h3 X U;exact pW
 have h4':¬(65535:Int)<LE.length:=I;have HE2:=Y (HE1.out.trans (if_neg I));clear HE1;go_wp2_with fail;rw[rounds_succ];have c10:=B2.K 10 L10;go_wp2_with fail;clear I0 I1 I2 U X h3 h4;go_loopw[36] (fun iv wr=>∃k:Nat,k<=Q.length/\iv= .int .i64 k/\Hid (∀j (hj:j<Q.length),j<k->qE Q[j]=0)/\al w2 wr) (fun iv _=>Q.length-(intOf iv).toNat)
 case atStart=>exact⟨0,Nat.zero_le _,J,Y (fun j hj h=>by omega),Below.refl _ _⟩
 case round=>
  obtain⟨k,O,rfl,HJ,F⟩:=hrel;have HBr:=tL hk (vV hk (Nat.le_refl _)) F;by_cases Hh:k<Q.length
  ·
   have tQ:(k:Int)<Q.length:=I;obtain⟨ba,oa,hA,hba,hel⟩:=hq I;subst hA;obtain⟨An,cn,hrg,hN⟩:=hel k Hh;have hRk:=tX hrg HBr hba;unfold qC at hRk;have CK:=Y (fun w' (b:al w w')=>zc An cn Q[k].name w' (hN.G b).1 bu);have W1:=Y (fun w=>Jn Q[k].E w);have W2:=Y (fun w=>Jn Q[k].N w);have FK:=Y (FQ'.out k Hh HJ.out);have HJ2:=Y (fun(hz:qE Q[k]=0) j (hj:j<Q.length) (hjk:j<k+1)=>(by by_cases e:j=k;(subst e;exact hz);exact HJ.out j hj I:qE Q[j]=0));have HQ:Hid (qE Q[k]=_):=Y (by unfold qE;rfl);clear hel hrg hN HJ;generalize qE (Q[k]'Hh)=qe at*;generalize tY (Q[k]'Hh).name=e0 at*;generalize(Q[k]'Hh).name.length=nl at*;generalize xN 65535 (Q[k]'Hh).E=i1 at*;generalize xN 65535 (Q[k]'Hh).N=i2 at*;generalize(Q[k]'Hh).E=E at*;generalize(Q[k]'Hh).N=N at*;go_wp2_with(refine tO (.load 28 (.tmp 38)) J ?_;go_must(refine vM J 28 (.tmp 38) J ba (oa+k*3) J [.slice An nl cn,.int .i64 E,.int .i64 N] hRk _ underlying28 J xh ?_));have HBn:=HBr.alloc HBr.size (.cells #[.slice An nl cn,.int .i64 E,.int .i64 N] 28);have hbn:=F.alloc F.size (.cells #[.slice An nl cn,.int .i64 E,.int .i64 N] 28);refine(CK.out _ HBn).mono ?_;rintro _ w4 ⟨rfl,rfl⟩;clear CK hRk HBr F;by_cases he0:e0=0
   case neg=>exact qj
   subst he0;replace HQ:=Y (HQ.out.trans (if_neg ap));go_wp2_with fail;refine(W1.out _).mono ?_;rintro _ w4 ⟨rfl,rfl⟩;clear W1;cases i1 with
   |false=>exact pd
   |true=>
   go_wp2_with fail;refine(W2.out _).mono ?_;rintro _ w4 ⟨rfl,rfl⟩;clear W2;cases i2 with
   |false=>exact pd
   |true=>exact qP
  ·
   obtain rfl:k=Q.length:=I;have hf0:=FQ.out (fun j hj=>HJ.out j hj hj);subst hf0;have HEX:=Y (HE2.out.trans (if_neg ap));have tQ:¬(Q.length:Int)<Q.length:=I;have B3:=B2.G F B2.lt;have HB3:=HBr;clear HJ Hh FQ FQ' HE2 HBr F B2 hk c10 hq;go_wp2_with(refine tO (.load 50 (.tmp 1)) J ?_;go_must(refine tP J _ _ J w.heap.size 0 J B3 14 I _ underlying50 J ux cs (wg I) ?_));refine(LI.out _).mono ?_;rintro _ wa ⟨rfl,ba⟩;have HBa:=tL HB3 HB3.size ba;clear B3 HB3 ba LI;have I0:∀w:World,(Instr.index 281 (.agg #[.slice Aa LA.length ca,.slice Au LU.length cu,.slice Ae LE.length ce]) (.int .i64 0)).run prog w= .ok (.slice Aa LA.length ca) w:=fun _=>by kernel_rfl
   have I1:∀w:World,(Instr.index 281 (.agg #[.slice Aa LA.length ca,.slice Au LU.length cu,.slice Ae LE.length ce]) (.int .i64 1)).run prog w= .ok (.slice Au LU.length cu) w:=fun _=>by kernel_rfl
   have I2:∀w:World,(Instr.index 281 (.agg #[.slice Aa LA.length ca,.slice Au LU.length cu,.slice Ae LE.length ce]) (.int .i64 2)).run prog w= .ok (.slice Ae LE.length ce) w:=fun _=>by kernel_rfl
   go_wp2_with fail;refine wp_loop_rounds 4 ?_;have HBr:=HBa;clear HBa;rw[rounds_succ];go_wp2_with fail;go_loopw[64] (fun iv wr=>∃k:Nat,k<=LA.length/\iv= .int .i64 k/\Hid (∀j (hj:j<LA.length),j<k->uk LA[j]=0)/\al w wr) (fun iv _=>LA.length-(intOf iv).toNat)
   case atStart=>exact⟨0,Nat.zero_le _,J,Y (fun j hj h=>by omega),HBr⟩
   clear HBr;obtain⟨k,O,rfl,HJ,HBr⟩:=hrel;by_cases Hh:k<LA.length
   case pos=>have tQ:(k:Int)<LA.length:=I;obtain⟨ba,oa,hA,hba,hel⟩:=ha I;subst hA;obtain⟨ck,hrg,hRR⟩:=hel k Hh;have hRk:=tX hrg HBr hba;have ckl:=hRR.len;have ck1:=Y hRR.one;have CK:=Y (fun w' (b:al w w')=>ym ck LA[k] w' (hRR.G b));have FK:=Y ((FA').out k Hh HJ.out);have HJ2:=Y (fun(hz:uk LA[k]=0) j (hj:j<LA.length) (hjk:j<k+1)=>(by by_cases e:j=k;(subst e;exact hz);exact HJ.out j hj I:uk LA[j]=0));clear hel hrg hRR HJ;generalize uk (LA[k]'Hh)=ek at*;exact oB
   obtain rfl:k=LA.length:=I;have hf0:=(FA).out (fun j hj=>HJ.out j hj hj);subst hf0;replace HEX:=Y (HEX.out.trans (if_neg ap));have tQ:¬(LA.length:Int)<LA.length:=I;clear HJ Hh O FA FA';go_wp2_with fail;rw[rounds_succ];go_wp2_with fail;go_loopw[64] (fun iv wr=>∃k:Nat,k<=LU.length/\iv= .int .i64 k/\Hid (∀j (hj:j<LU.length),j<k->uk LU[j]=0)/\al w wr) (fun iv _=>LU.length-(intOf iv).toNat)
   case atStart=>exact⟨0,Nat.zero_le _,J,Y (fun j hj h=>by omega),HBr⟩
   clear HBr;obtain⟨k,O,rfl,HJ,HBr⟩:=hrel;by_cases Hh:k<LU.length
   case pos=>have tQ:(k:Int)<LU.length:=I;obtain⟨ba,oa,hA,hba,hel⟩:=hu I;subst hA;obtain⟨ck,hrg,hRR⟩:=hel k Hh;have hRk:=tX hrg HBr hba;have ckl:=hRR.len;have ck1:=Y hRR.one;have CK:=Y (fun w' (b:al w w')=>ym ck LU[k] w' (hRR.G b));have FK:=Y ((FU').out k Hh HJ.out);have HJ2:=Y (fun(hz:uk LU[k]=0) j (hj:j<LU.length) (hjk:j<k+1)=>(by by_cases e:j=k;(subst e;exact hz);exact HJ.out j hj I:uk LU[j]=0));clear hel hrg hRR HJ;generalize uk (LU[k]'Hh)=ek at*;exact oB
   obtain rfl:k=LU.length:=I;have hf0:=(FU).out (fun j hj=>HJ.out j hj hj);subst hf0;replace HEX:=Y (HEX.out.trans (if_neg ap));have tQ:¬(LU.length:Int)<LU.length:=I;clear HJ Hh O FU FU';go_wp2_with fail;replace HEX:Hid (res=if fe≠0 then fe else 0):=Y (by rw[HEX.out];by_cases h:fe=0<;>simp[h]);rw[rounds_succ];go_wp2_with fail;go_loopw[64] (fun iv wr=>∃k:Nat,k<=LE.length/\iv= .int .i64 k/\Hid (∀j (hj:j<LE.length),j<k->uk LE[j]=0)/\al w wr) (fun iv _=>LE.length-(intOf iv).toNat)
   case atStart=>exact⟨0,Nat.zero_le _,J,Y (fun j hj h=>by omega),HBr⟩
   clear HBr;obtain⟨k,O,rfl,HJ,HBr⟩:=hrel;by_cases Hh:k<LE.length
   case pos=>have tQ:(k:Int)<LE.length:=I;obtain⟨ba,oa,hA,hba,hel⟩:=he I;subst hA;obtain⟨ck,hrg,hRR⟩:=hel k Hh;have hRk:=tX hrg HBr hba;have ckl:=hRR.len;have ck1:=Y hRR.one;have CK:=Y (fun w' (b:al w w')=>ym ck LE[k] w' (hRR.G b));have FK:=Y ((FE').out k Hh HJ.out);have HJ2:=Y (fun(hz:uk LE[k]=0) j (hj:j<LE.length) (hjk:j<k+1)=>(by by_cases e:j=k;(subst e;exact hz);exact HJ.out j hj I:uk LE[j]=0));clear hel hrg hRR HJ;generalize uk (LE[k]'Hh)=ek at*;exact oB
   obtain rfl:k=LE.length:=I;have hf0:=(FE).out (fun j hj=>HJ.out j hj hj);subst hf0;replace HEX:=Y (HEX.out.trans (if_neg ap));have tQ:¬(LE.length:Int)<LE.length:=I;clear HJ Hh O FE FE';go_wp2_with fail;obtain rfl:res=0:=HEX.out;rw[rounds_succ];exact rM
structure Fold {α:Type} (f:WS->α->WS) (l:List α) (sb se:WS) (aeq:Nat):Prop where
 len:∀k,((l.take k).foldl f sb).1.length<=aeq
 few:∀k,yQ ((l.take k).foldl f sb).2 600000
 step:∀k (O:k<l.length),(l.take (k+1)).foldl f sb=f ((l.take k).foldl f sb) l[k]
 done:(l.take l.length).foldl f sb=se
theorem Rh(l:List Qn)(sb:WS)(n aeq:Nat)(hf:yQ sb.2 n)(hE:(l.foldl vC sb).1.length<=aeq)(hn:n+254*l.length<=600000):Fold vC l sb (l.foldl vC sb) aeq:=
 ⟨fun k=>Nat.le_trans (TH l k sb) hE,fun k=>(Fh _ _ _ hf).mono dg,fun k O=>Ed _ _ _ O _,by rw[List.take_length]⟩
theorem Hy(l:List RR)(sb:WS)(n aeq:Nat)(hf:yQ sb.2 n)(hE:(l.foldl tZ sb).1.length<=aeq)(hn:n+762*l.length<=600000):Fold tZ l sb (l.foldl tZ sb) aeq:=
 ⟨fun k=>Nat.le_trans (TJ l k sb) hE,fun k=>(Fi _ _ _ hf).mono dg,fun k O=>Ed _ _ _ O _,by rw[List.take_length]⟩
structure aeS (m:vo) (pack:Bool) (s1 s2 s3 s4:WS):Prop where
 q:Fold vC m.qs (wO m pack) s1 s4.1.length
 a:Fold tZ m.an s1 s2 s4.1.length
 u:Fold tZ m.au s2 s3 s4.1.length
 e:Fold tZ m.ex s3 s4 s4.1.length
 eq:s4=DJ m pack
theorem abj(m:vo)(pack:Bool)(hq:m.qs.length<=700)(hr:m.BD.length<=400):∃s1 s2 s3 s4,aeS m pack s1 s2 s3 s4:=by
 have hl:m.BD.length=m.an.length+m.au.length+m.ex.length:=lH;have f0:=Nv m pack;have f1:=Fh m.qs _ _ f0;have f2:=Fi m.an _ _ f1;have f3:=Fi m.au _ _ f2;have e3:=zt m.ex (m.au.foldl tZ (m.an.foldl tZ (m.qs.foldl vC (wO m pack))));have e2:=zt m.au (m.an.foldl tZ (m.qs.foldl vC (wO m pack)));have e1:=zt m.an (m.qs.foldl vC (wO m pack));refine⟨_,_,_,_,Rh m.qs _ 0 _ f0 I I,Hy m.an _ _ _ f1 I I,Hy m.au _ _ _ f2 I I,Hy m.ex _ _ _ f3 (Nat.le_refl _) I,(Vg m pack).symm⟩
theorem NK{m:vo}(h:MOk m)(pack:Bool):Eu m.hd m.qs.length m.an.length m.au.length m.ex.length=((wO m pack).1,0):=by
 obtain⟨h0,U,X,h3,h4,_,_⟩:=h;unfold Eu;rw[if_pos ⟨h0,I,I,I,I⟩];rfl
theorem Ri(cs:List Value)(m:vo)(pack:Bool)(Aq Aa Au Ae:Option Addr)(cq ca cu ce:Nat)(w:World)(h:yZ w cs m Aq Aa Au Ae cq ca cu ce)(hc:vU m≠0):
  Calls prog 115 #[.agg cs.toArray,.bool pack] w (uf (.tuple #[.string (bs []),.int .i64 (vU m)]) w):=by
 have hl:cs.length=14:=mi;have CK:=Y (fun w' (b:al w w')=>Lm cs m Aq Aa Au Ae cq ca cu ce w' (h.G b));generalize vU m=e at*;have he:(e !=0)=true:=iK;clear hc h;have B0:=Z.new w 50 cs;have HB0:Below w.heap.size w (w.alloc (.cells cs.toArray 50)):=gj;go_enter func115,ntmps115;exact pH
theorem xd.wf{r:RR}(h:xd w cs r):r.wf:=by obtain⟨_,_,_,_,_,_,_,hr,_⟩:=h;exact hr
theorem DT{st:WS}{r:RR}(hl:st.1.length<=65535)(hw:r.wf)(hc:uk r=0):(tZ st r).1.length<=10000000:=by
 have U:=IA hw hc (zA st r) ((yz st r).length+2);have X:=wL st.2 (st.1.length:Int) r.name;change(yz st r++tT 2 (yR st r).length++yR st r).length<=_;change(yR st r).length<=_ at U;simp only[yz,List.length_append,tR];omega
theorem Zn{st:WS}{q:Qn}(hl:st.1.length<=65535):(vC st q).1.length<=10000000:=by
 have X:=wL st.2 (st.1.length:Int) q.name;simp only[vC,List.length_append,tR];omega
theorem Ps(cs:List Value)(m:vo)(pack:Bool)(Aq Aa Au Ae:Option Addr)(cq ca cu ce:Nat)(w:World)(h:yZ w cs m Aq Aa Au Ae cq ca cu ce)(hc:vU m=0)(hq:m.qs.length<=700)(hr:m.BD.length<=400):
  Calls prog 115 #[.agg cs.toArray,.bool pack] w (uf (.tuple #[.string (bs (vg m pack).1),.int .i64 (vg m pack).2]) w):=by
 have MK:=Pb hc;obtain⟨s1,s2,s3,s4,PL⟩:=abj m pack hq hr;have hcs:=h.hcs;have hl:cs.length=14:=iB;have L10:cs[10]?=some (.slice Aq m.qs.length cq):=bI;have L11:cs[11]?=some (.slice Aa m.an.length ca):=bI;have L12:cs[12]?=some (.slice Au m.au.length cu):=bI;have L13:cs[13]?=some (.slice Ae m.ex.length ce):=bI;have LH:(cs.drop 0).take 10=m.hd.vJ:=bI;have LI:=Y (fun w=>Nu m.hd (.slice Aq m.qs.length cq) Aa Au Ae m.an.length m.au.length m.ex.length ca cu ce w);rw[<-hcs]at LI;have CK:=Y (fun w' (b:al w w')=>Lm cs m Aq Aa Au Ae cq ca cu ce w' (h.G b));rw[hc]at CK;have HP:Hid (∀w,Calls prog 166 #[.agg m.hd.vJ.toArray,.agg #[.int .i64 (m.qs.length:Int),.int .i64 (m.an.length:Int),.int .i64 (m.au.length:Int),.int .i64 (m.ex.length:Int)]] w (uf (.tuple #[.string (bs (wO m pack).1),.int .i64 0]) w)):=Y (fun w=>by
  have:=Qw m.hd m.qs.length m.an.length m.au.length m.ex.length w;rw[NK MK pack]at this;exact this)
 have RL:Hid (65535<s4.1.length->(vg m pack).1=[]/\(vg m pack).2=3):=kJ;have RO:Hid (¬65535<s4.1.length->(vg m pack).1=s4.1/\(vg m pack).2=0):=jZ;have hq':=h.hq;have ha:=h.ha;have hu:=h.hu;have he:=h.he;have FQ:=Y PL.q;have FA:=Y PL.a;have FU:=Y PL.u;have FE:=Y PL.e;have QC:Hid (∀k (O:k<m.qs.length),tY m.qs[k].name=0):=Y (fun k O=>MK.q _ (List.getElem_mem O));have AC:Hid (∀k (O:k<m.an.length),uk m.an[k]=0):=ma;have UC:Hid (∀k (O:k<m.au.length),uk m.au[k]=0):=ma;have EC:Hid (∀k (O:k<m.ex.length),uk m.ex[k]=0):=ma;have lq:=MK.lq;have la:=MK.la;have lu:=MK.lu;have le:=MK.le;have h12:=Iz m pack;have hT0:(wO m pack).2=if pack then some []else none:=rfl
 clear h hcs hc MK PL hq hr;generalize(vg m pack).1=o1 at*;generalize(vg m pack).2=o2 at*;generalize wO m pack=s0 at*;generalize m.hd.vJ=HV,m.qs=Q at*;generalize m.an=LA,m.au=LU,m.ex=LE at*;have B0:=Z.new w 50 cs;have HB0:Below w.heap.size w (w.alloc (.cells cs.toArray 50)):=gj;go_enter func115,ntmps115;go_wp2_with(refine tO (.load 50 (.tmp 2)) J ?_;go_must(refine tP J _ _ J w.heap.size 0 J B0 14 I _ underlying50 J ux cs (wg I) ?_));go_wp2_with fail;refine(CK.out _ HB0).mono ?_;rintro _ w1 ⟨rfl,b1⟩;have B1:=B0.G b1 B0.lt;have HB1:=tL HB0 HB0.size b1;clear B0 HB0 b1 CK;have c10:=B1.K 10 L10;have c11:=B1.K 11 L11;have c12:=B1.K 12 L12;have c13:=B1.K 13 L13;have B1':=B1.alloc (.cells #[.int .i64 (Q.length:Int),.int .i64 (LA.length:Int),.int .i64 (LU.length:Int),.int .i64 (LE.length:Int)] 210);go_wp2_with(refine tO (.load 46 (.tmp 38)) J ?_;go_must(refine tP J _ _ J w.heap.size 0 J B1' 10 I _ underlying46 J Cf HV LH ?_));refine(HP.out _).mono ?_;rintro _ w2 ⟨rfl,b2⟩;have B2:=B1'.G b2 B1'.lt;have hk:al w w2:=tL (HB1.alloc HB1.size _) (by have:=HB1.size;simp;omega) b2;clear B1' b2 B1 HB1 c10 c11 c12 c13 HP LH;obtain⟨A,c,w3,hr3,o3,b3⟩:=aaO w2 s0.1 aJ;have HR3:=Y hr3;have H12:=Y h12;clear h12;clear hr3;have aiB:=b3.size;have W4:zg w2.heap.size (w3.alloc (.cells #[.slice A s0.1.length c,.pointer none] 277)) w3.heap.size s0.1 none none:=⟨A,c,aiB,Z.new _ _ [.slice A s0.1.length c,.pointer none],o3.G ((Below.refl _ _).alloc (Nat.le_refl _) _),J⟩;have K4:vY w2.heap.size w2 (w3.alloc (.cells #[.slice A s0.1.length c,.pointer none] 277)):=vY.zq (b3.alloc aiB _) (Nat.le_refl _);go_upto_if 50 with(refine tO (.convert 9 145 (.tmp 47)) rfl ?_;go_must(refine TM rfl 9 145 (.tmp 47) rfl _ rfl HR3.out ?_));go_cut[] (fun wx=>∃p,zg w2.heap.size wx w3.heap.size s0.1 p s0.2/\vY w2.heap.size w2 wx)
 case first=>
  cases pack with
  |false=>
   have hT1:s0.2=none:=hT0;go_wp2_with fail;go_meet
   case rel=>exact⟨none,by rw[hT1];exact W4,K4⟩
  |true=>
   have hT1:s0.2=some []:=hT0;have HT1:=Y hT1;clear hT1 hT0;go_wp2_with fail;refine(Yq _).mono ?_;rintro _ w5 ⟨g,b,rfl,hT,hB,hg,hbb⟩;have Bw:=(Z.new w3 277 [.slice A s0.1.length c,.pointer none]).G hB (Z.new w3 277 [.slice A s0.1.length c,.pointer none]).lt;have Ow:AF w5 w2.heap.size (.slice A s0.1.length c) s0.1:=(o3.G ((Below.refl _ _).alloc (Nat.le_refl _) _)).G hB;have hb3:w2.heap.size<=(w3.alloc (.cells #[.slice A s0.1.length c,.pointer none] 277)).heap.size:=az;have T5:DF w2.heap.size w5 (some ⟨g,0,none⟩) (some []):=⟨g,b,J,Nat.le_trans hb3 hg,Nat.le_trans hb3 hbb,hT⟩;have K5:vY w2.heap.size w2 w5:=K4.trans (vY.zq hB hb3);clear W4 K4 hT hg hbb o3 hB;go_wp2_with(refine tO (.store 275 (.tmp 52) (.tmp 51)) J (af J w3.heap.size 1 _ Bw ap (by kernel_rfl) ?_));intro w6 hb6 hg6 hs6;have W6:zg w2.heap.size w6 w3.heap.size s0.1 (some ⟨g,0,none⟩) (some []):=⟨A,c,aiB,hb6,Ow.kept hg6 (.inr (fun he=>Ow.ne Bw ax he.symm)),T5.grown hg6 (by
    intro k O;obtain rfl:=Option.some.inj O;exact⟨_,_,_,Bw,ax⟩)⟩
   have K6:vY w2.heap.size w2 w6:=by refine K5.trans ⟨tN (Below.refl _ _) hg6 (K5.size (Nat.le_refl _)) aiB,fun g' t cs' F n1 n2=>F.grown hg6 ?_⟩;intro he;obtain rfl:=Option.some.inj he;have hh:w5.heap[w3.heap.size]?=_:=F;have b1':w5.heap[w3.heap.size]?=_:=Bw;exact sU
   clear Bw Ow T5 K5 hb6 hg6 hs6;go_wp2_with fail;go_meet
   case rel=>exact⟨_,by rw[HT1.out];exact W6,K6⟩
 case rest=>
  obtain⟨p,W5,K5⟩:=hcut;clear W4 K4 o3 HR3 hT0;generalize w3.heap.size=gw at*;have hsl:((Q.take 0).foldl vC s0).1.length<=65535:=by have:=H12.out;simp;omega
  have B5:=K5.2 _ _ _ B2 ax ax;have c10:=B5.K 10 L10;clear b3 H12;go_wp2_with fail;go_loopw[56] (fun iv wr=>∃k:Nat,k<=Q.length/\iv= .int .i64 k/\((Q.take k).foldl vC s0).1.length<=65535/\zg w2.heap.size wr gw ((Q.take k).foldl vC s0).1 p ((Q.take k).foldl vC s0).2/\vY w2.heap.size w2 wr) (fun iv _=>Q.length-(intOf iv).toNat)
  case atStart=>exact⟨0,Nat.zero_le _,J,hsl,W5,K5⟩
  clear hsl W5 K5 c10 B5;obtain⟨k,O,rfl,hsl,Wr,Kr⟩:=hrel;by_cases Hh:k<Q.length
  case pos=>
   have tQ:(k:Int)<Q.length:=I;obtain⟨ba,oa,hA,hba,hel⟩:=hq' I;subst hA;obtain⟨An,cn,hrg,hN⟩:=hel k Hh;have HBr:al w wr:=jt;have hRk:=tX hrg HBr hba;have tK:=Kr.size (Nat.le_refl _);have ST:=Y (FQ.out.step k Hh);have LN:=Y (FQ.out.len (k+1));have FW:=FQ.out.few k;have RC:=Y (fun w' (hW:zg w2.heap.size w' gw ((Q.take k).foldl vC s0).1 p ((Q.take k).foldl vC s0).2) (F:al w w') (tK:w2.heap.size<=w'.heap.size)=>Mw w2.heap.size gw ((Q.take k).foldl vC s0) p An cn Q[k] w w' hW hN hk.size F tK I (FW.mono I));rw[<-ST.out,QC.out k Hh]at RC;unfold qC at hRk RC;clear hel hrg hN FW;obtain⟨sn,hsn⟩:∃sn,sn=(Q.take (k+1)).foldl vC s0:=gp;rw[<-hsn]at RC ST LN;have HSN:=Y hsn.symm;have aj0:sn.1.length<=10000000:=by rw[ST.out];exact Zn hsl
   clear hsn;generalize(Q.take k).foldl vC s0=st at*;clear ST;generalize(Q[k]'Hh).name.length=nl at*;generalize(Q[k]'Hh).E=E at*;generalize(Q[k]'Hh).N=N at*;go_wp2_with(refine tO (.load 28 (.tmp 58)) J ?_;go_must(refine vM J 28 (.tmp 58) J ba (oa+k*3) J [.slice An nl cn,.int .i64 E,.int .i64 N] hRk _ underlying28 J xh ?_));have bo:Below wr.heap.size wr (wr.alloc (.cells #[.slice An nl cn,.int .i64 E,.int .i64 N] 28)):=gj;refine(RC.out _ (Wr.G bo) (tL HBr HBr.size bo) (Nat.le_trans tK bo.size)).mono ?_;rintro _ w5 ⟨rfl,W5,K5⟩;have K5':=(Kr.trans (vY.zq bo tK)).trans K5;clear RC K5 bo tK Wr Kr HBr hRk;have RM:=Y (QF w2.heap.size gw sn.1 p sn.2 0 w5 W5 aj0);by_cases h5:65535<sn.1.length
   ·obtain⟨rfl,rfl⟩:=RL.out (Nat.lt_of_lt_of_le h5 LN.out);rw[if_pos ⟨J,h5⟩]at RM;go_wp2_with fail;refine RM.out.mono ?_;rintro _ w6 ⟨rfl,rfl⟩;clear RM h5 LN;go_wp2_with fail;go_ret2;exact uf.mk J (hk.trans (K5'.1.mono hk.size))
   ·
    rw[if_neg (fun h=>h5 h.2)]at RM;go_wp2_with fail;refine RM.out.mono ?_;rintro _ w6 ⟨rfl,rfl⟩;clear RM LN;go_wp2_with fail;go_roundw
    case rel=>exact⟨k+1,I,fU,by rw[HSN.out];omega,by rw[HSN.out];exact W5,K5'⟩
    case measure=>simp[intOf];omega
  obtain rfl:k=Q.length:=I;have tQ:¬(Q.length:Int)<Q.length:=I;rw[FQ.out.done]at hsl Wr;have Br:=Kr.2 _ _ _ B2 ax ax;clear Hh O FQ hq' QC L10;go_wp2_with(refine tO (.load 50 (.tmp 2)) J ?_;go_must(refine tP J _ _ J w.heap.size 0 J Br 14 I _ underlying50 J ux cs (wg I) ?_));refine(LI.out _).mono ?_;rintro _ wa ⟨rfl,ba⟩;replace Wr:=Wr.G ba;replace Kr:=Kr.trans (vY.zq ba (Kr.size (Nat.le_refl _)));clear Br ba LI;have I0:∀w:World,(Instr.index 281 (.agg #[.slice Aa LA.length ca,.slice Au LU.length cu,.slice Ae LE.length ce]) (.int .i64 0)).run prog w= .ok (.slice Aa LA.length ca) w:=fun _=>by kernel_rfl
  have I1:∀w:World,(Instr.index 281 (.agg #[.slice Aa LA.length ca,.slice Au LU.length cu,.slice Ae LE.length ce]) (.int .i64 1)).run prog w= .ok (.slice Au LU.length cu) w:=fun _=>by kernel_rfl
  have I2:∀w:World,(Instr.index 281 (.agg #[.slice Aa LA.length ca,.slice Au LU.length cu,.slice Ae LE.length ce]) (.int .i64 2)).run prog w= .ok (.slice Ae LE.length ce) w:=fun _=>by kernel_rfl
  go_wp2_with fail;refine wp_loop_rounds 4 ?_;rw[rounds_succ];go_wp2_with fail;go_loopw[74] (fun iv wr=>∃k:Nat,k<=LA.length/\iv= .int .i64 k/\((LA.take k).foldl tZ s1).1.length<=65535/\zg w2.heap.size wr gw ((LA.take k).foldl tZ s1).1 p ((LA.take k).foldl tZ s1).2/\vY w2.heap.size w2 wr) (fun iv _=>LA.length-(intOf iv).toNat)
  case atStart=>exact⟨0,Nat.zero_le _,J,hsl,Wr,Kr⟩
  clear hsl Wr Kr;obtain⟨k,O,rfl,hsl,Wr,Kr⟩:=hrel;by_cases Hh:k<LA.length
  case pos=>
   have tQ:(k:Int)<LA.length:=I;obtain⟨ba,oa,hA,hba,hel⟩:=ha I;subst hA;obtain⟨ck,hrg,hRR⟩:=hel k Hh;have HBr:al w wr:=jt;have hRk:=tX hrg HBr hba;have ckl:=hRR.len;have hwf:=hRR.wf;have ck1:=Y hRR.one;have tK:=Kr.size (Nat.le_refl _);have ST:=Y ((FA).out.step k Hh);have LN:=Y ((FA).out.len (k+1));have FW:=(FA).out.few k;have RC:=Y (fun w' (hW:zg w2.heap.size w' gw ((LA.take k).foldl tZ s1).1 p ((LA.take k).foldl tZ s1).2) (F:al w w') (tK:w2.heap.size<=w'.heap.size)=>Ew w2.heap.size gw ((LA.take k).foldl tZ s1) p ck LA[k] w w' hW hRR hk.size F tK I (FW.mono I) ((AC).out k Hh));rw[<-ST.out]at RC;clear hel hrg hRR FW;obtain⟨sn,hsn⟩:∃sn,sn=(LA.take (k+1)).foldl tZ s1:=gp;rw[<-hsn]at RC ST LN;have HSN:=Y hsn.symm;have aj0:sn.1.length<=10000000:=by rw[ST.out];exact DT hsl hwf ((AC).out k Hh)
   clear hsn;generalize(LA.take k).foldl tZ s1=st at*;exact oy
  obtain rfl:k=LA.length:=I;have tQ:¬(LA.length:Int)<LA.length:=I;rw[(FA).out.done]at hsl Wr;clear Hh O FA ha AC;go_wp2_with fail;rw[rounds_succ];go_wp2_with fail;go_loopw[74] (fun iv wr=>∃k:Nat,k<=LU.length/\iv= .int .i64 k/\((LU.take k).foldl tZ s2).1.length<=65535/\zg w2.heap.size wr gw ((LU.take k).foldl tZ s2).1 p ((LU.take k).foldl tZ s2).2/\vY w2.heap.size w2 wr) (fun iv _=>LU.length-(intOf iv).toNat)
  case atStart=>exact⟨0,Nat.zero_le _,J,hsl,Wr,Kr⟩
  clear hsl Wr Kr;obtain⟨k,O,rfl,hsl,Wr,Kr⟩:=hrel;by_cases Hh:k<LU.length
  case pos=>
   have tQ:(k:Int)<LU.length:=I;obtain⟨ba,oa,hA,hba,hel⟩:=hu I;subst hA;obtain⟨ck,hrg,hRR⟩:=hel k Hh;have HBr:al w wr:=jt;have hRk:=tX hrg HBr hba;have ckl:=hRR.len;have hwf:=hRR.wf;have ck1:=Y hRR.one;have tK:=Kr.size (Nat.le_refl _);have ST:=Y ((FU).out.step k Hh);have LN:=Y ((FU).out.len (k+1));have FW:=(FU).out.few k;have RC:=Y (fun w' (hW:zg w2.heap.size w' gw ((LU.take k).foldl tZ s2).1 p ((LU.take k).foldl tZ s2).2) (F:al w w') (tK:w2.heap.size<=w'.heap.size)=>Ew w2.heap.size gw ((LU.take k).foldl tZ s2) p ck LU[k] w w' hW hRR hk.size F tK I (FW.mono I) ((UC).out k Hh));rw[<-ST.out]at RC;clear hel hrg hRR FW;obtain⟨sn,hsn⟩:∃sn,sn=(LU.take (k+1)).foldl tZ s2:=gp;rw[<-hsn]at RC ST LN;have HSN:=Y hsn.symm;have aj0:sn.1.length<=10000000:=by rw[ST.out];exact DT hsl hwf ((UC).out k Hh)
   clear hsn;generalize(LU.take k).foldl tZ s2=st at*;exact oy
  obtain rfl:k=LU.length:=I;have tQ:¬(LU.length:Int)<LU.length:=I;rw[(FU).out.done]at hsl Wr;clear Hh O FU hu UC;go_wp2_with fail;rw[rounds_succ];go_wp2_with fail;go_loopw[74] (fun iv wr=>∃k:Nat,k<=LE.length/\iv= .int .i64 k/\((LE.take k).foldl tZ s3).1.length<=65535/\zg w2.heap.size wr gw ((LE.take k).foldl tZ s3).1 p ((LE.take k).foldl tZ s3).2/\vY w2.heap.size w2 wr) (fun iv _=>LE.length-(intOf iv).toNat)
  case atStart=>exact⟨0,Nat.zero_le _,J,hsl,Wr,Kr⟩
  clear hsl Wr Kr;obtain⟨k,O,rfl,hsl,Wr,Kr⟩:=hrel;by_cases Hh:k<LE.length
  case pos=>
   have tQ:(k:Int)<LE.length:=I;obtain⟨ba,oa,hA,hba,hel⟩:=he I;subst hA;obtain⟨ck,hrg,hRR⟩:=hel k Hh;have HBr:al w wr:=jt;have hRk:=tX hrg HBr hba;have ckl:=hRR.len;have hwf:=hRR.wf;have ck1:=Y hRR.one;have tK:=Kr.size (Nat.le_refl _);have ST:=Y ((FE).out.step k Hh);have LN:=Y ((FE).out.len (k+1));have FW:=(FE).out.few k;have RC:=Y (fun w' (hW:zg w2.heap.size w' gw ((LE.take k).foldl tZ s3).1 p ((LE.take k).foldl tZ s3).2) (F:al w w') (tK:w2.heap.size<=w'.heap.size)=>Ew w2.heap.size gw ((LE.take k).foldl tZ s3) p ck LE[k] w w' hW hRR hk.size F tK I (FW.mono I) ((EC).out k Hh));rw[<-ST.out]at RC;clear hel hrg hRR FW;obtain⟨sn,hsn⟩:∃sn,sn=(LE.take (k+1)).foldl tZ s3:=gp;rw[<-hsn]at RC ST LN;have HSN:=Y hsn.symm;have aj0:sn.1.length<=10000000:=by rw[ST.out];exact DT hsl hwf ((EC).out k Hh)
   clear hsn;generalize(LE.take k).foldl tZ s3=st at*;exact oy
  obtain rfl:k=LE.length:=I;have tQ:¬(LE.length:Int)<LE.length:=I;rw[(FE).out.done]at hsl Wr;clear Hh O FE he EC;go_wp2_with fail;rw[rounds_succ];obtain⟨rfl,rfl⟩:=RO.out I;clear RO RL I0 I1 I2;obtain⟨A',c',U,X,h3,h4⟩:=Wr;have c0:=X.K 0 J;have CV:=h3.str;go_wp2_with fail;go_ret2;exact uf.mk J (hk.trans (Kr.1.mono hk.size))
theorem TZ(m:vo):vU m=if m.hd.ok=false then 4
  else if 65535<m.qs.length\/65535<m.an.length\/65535<m.au.length\/65535<m.ex.length then 3
  else if xK (m.qs.map qE)≠0 then xK (m.qs.map qE)
  else xK (m.BD.map uk):=rfl
theorem Gp(cs:List Value)(m:vo)(Aq Aa Au Ae:Option Addr)(cq ca cu ce:Nat)(w:World)(h:yZ w cs m Aq Aa Au Ae cq ca cu ce):
  Calls prog 110 #[.agg cs.toArray] w (uf (.int .i64 (vU m)) w):=by
 have hcs:=h.hcs;have hl:cs.length=14:=iB;have L10:cs[10]?=some (.slice Aq m.qs.length cq):=bI;have L11:cs[11]?=some (.slice Aa m.an.length ca):=bI;have L12:cs[12]?=some (.slice Au m.au.length cu):=bI;have L13:cs[13]?=some (.slice Ae m.ex.length ce):=bI;have LH:(cs.drop 0).take 10=m.hd.vJ:=bI;have LI:=Y (fun w' (b:al w w')=>Vj cs m Aq Aa Au Ae cq ca cu ce w w' h b);have CH:Hid (∀w,Calls prog 158 #[.agg m.hd.vJ.toArray] w (uf (.int .i64 (if m.hd.ok then 0 else 4)) w)):=Y (fun w=>DI m.hd w);have lq:=h.lq;have la:=h.la;have lu:=h.lu;have le:=h.le;have hq:=h.hq;have HE:=Y (TZ m);have FQ:=Y (Ff qE m.qs);have FQ':=Y (Dh qE m.qs);have FA:=Y (Ff uk m.BD);have FA':=Y (Dh uk m.BD);have hlen:m.BD.length=m.an.length+m.au.length+m.ex.length:=lH;clear h hcs;generalize vU m=res at*;generalize xK (m.qs.map qE)=fq at*;generalize xK (m.BD.map uk)=fa at*;generalize m.hd.vJ=HV,m.hd.ok=ok at*;generalize m.qs=Q,m.BD=R at*;generalize m.an.length=na,m.au.length=nu,m.ex.length=ne at*;have B0:=Z.new w 50 cs;have HB0:Below w.heap.size w (w.alloc (.cells cs.toArray 50)):=gj;go_enter func110,ntmps110;go_wp2_with(refine tO (.load 46 (.tmp 10)) J ?_;go_must(refine tP J _ _ J w.heap.size 0 J B0 10 I _ underlying46 J Cf HV LH ?_));go_wp2_with fail;refine(CH.out _).mono ?_;rintro _ w2 ⟨rfl,b1⟩;have B2:=B0.G b1 B0.lt;have hk:=tL HB0 HB0.size b1;clear B0 HB0 b1 CH;cases ok with
 |false=>have hr0:=HE.out.trans (if_pos J);subst hr0;clear HE;exact pW
 |true=>
 have HE1:=Y (HE.out.trans (if_neg ap));clear HE;have c10:=B2.K 10 L10;have c11:=B2.K 11 L11;have c12:=B2.K 12 L12;have c13:=B2.K 13 L13;by_cases U:65535<Q.length
 case pos=>have h1':(65535:Int)<Q.length:=I;have hr0:=HE1.out.trans (if_pos (.inl U));subst hr0;clear HE1 U hlen;exact pW
 have h1':¬(65535:Int)<Q.length:=I;by_cases X:65535<na
 case pos=>have h2':(65535:Int)<na:=I;have hr0:=HE1.out.trans (if_pos (.inr (.inl X)));subst hr0;clear HE1 X U hlen;exact pW
 have h2':¬(65535:Int)<na:=I;by_cases h3:65535<nu
 case pos=>have h3':(65535:Int)<nu:=I;have hr0:=HE1.out.trans (if_pos (.inr (.inr (.inl h3))));subst hr0;clear HE1 h3 X U hlen;exact pW
 have h3':¬(65535:Int)<nu:=I;by_cases h4:65535<ne
 case pos=>have h4':(65535:Int)<ne:=I;have hr0:=HE1.out.trans (if_pos (.inr (.inr (.inr h4))));subst hr0;clear HE1 h4 h3 X U hlen;exact pW
 have h4':¬(65535:Int)<ne:=I;have HE2:=Y (HE1.out.trans (if_neg I));have AL:=Y (fun w' b=>LI.out w' b I I I);clear HE1 LI L11 L12 L13;go_wp2_with fail;clear U X h3 h4 c11 c12 c13;go_loopw[4] (fun iv wr=>∃k:Nat,k<=Q.length/\iv= .int .i64 k/\Hid (∀j (hj:j<Q.length),j<k->qE Q[j]=0)/\al w2 wr) (fun iv _=>Q.length-(intOf iv).toNat)
 case atStart=>exact⟨0,Nat.zero_le _,J,Y (fun j hj h=>by omega),Below.refl _ _⟩
 clear c10;obtain⟨k,O,rfl,HJ,F⟩:=hrel;have HBr:=tL hk (vV hk (Nat.le_refl _)) F;have Br:=B2.G F B2.lt;have c10:=Br.K 10 L10;by_cases Hh:k<Q.length
 case pos=>
  have tQ:(k:Int)<Q.length:=I;obtain⟨ba,oa,hA,hba,hel⟩:=hq I;subst hA;obtain⟨An,cn,hrg,hN⟩:=hel k Hh;have hRk:=tX hrg HBr hba;unfold qC at hRk;have CK:=Y (fun w' (b:al w w')=>uS An cn Q[k].name w' (hN.G b).1 bu);have W1:=Y (fun w=>Hr Q[k].E w);have W2:=Y (fun w=>Hr Q[k].N w);have FK:=Y (FQ'.out k Hh HJ.out);have HJ2:=Y (fun(hz:qE Q[k]=0) j (hj:j<Q.length) (hjk:j<k+1)=>(by by_cases e:j=k;(subst e;exact hz);exact HJ.out j hj I:qE Q[j]=0));have HQ:Hid (qE Q[k]=_):=Y (by unfold qE;rfl);clear hel hrg hN HJ;generalize qE (Q[k]'Hh)=qe at*;generalize tY (Q[k]'Hh).name=e0 at*;generalize(Q[k]'Hh).name.length=nl at*;generalize xN 65535 (Q[k]'Hh).E=i1 at*;generalize xN 65535 (Q[k]'Hh).N=i2 at*;generalize(Q[k]'Hh).E=E at*;generalize(Q[k]'Hh).N=N at*;go_wp2_with(refine tO (.load 28 (.tmp 48)) J ?_;go_must(refine vM J 28 (.tmp 48) J ba (oa+k*3) J [.slice An nl cn,.int .i64 E,.int .i64 N] hRk _ underlying28 J xh ?_));have HBn:=HBr.alloc HBr.size (.cells #[.slice An nl cn,.int .i64 E,.int .i64 N] 28);have hbn:=F.alloc F.size (.cells #[.slice An nl cn,.int .i64 E,.int .i64 N] 28);refine(CK.out _ HBn).mono ?_;rintro _ w4 ⟨rfl,rfl⟩;clear CK hRk HBr F c10 Br;by_cases he0:e0=0
  case neg=>exact qj
  subst he0;replace HQ:=Y (HQ.out.trans (if_neg ap));go_wp2_with fail;refine(W1.out _).mono ?_;rintro _ w4 ⟨rfl,rfl⟩;clear W1;cases i1 with
  |false=>exact pd
  |true=>
  go_wp2_with fail;refine(W2.out _).mono ?_;rintro _ w4 ⟨rfl,rfl⟩;clear W2;cases i2 with
  |false=>exact pd
  |true=>exact qP
 obtain rfl:k=Q.length:=I;have hf0:=FQ.out (fun j hj=>HJ.out j hj hj);subst hf0;have HEX:=Y (HE2.out.trans (if_neg ap));have tQ:¬(Q.length:Int)<Q.length:=I;clear HJ Hh FQ FQ' HE2 F B2 hk hq O;go_wp2_with(refine tO (.load 50 (.tmp 1)) J ?_;go_must(refine tP J _ _ J w.heap.size 0 J Br 14 I _ underlying50 J ux cs (wg I) ?_));refine(AL.out _ HBr).mono ?_;rintro _ w3 ⟨A,c,rfl,aiI,b3⟩;have HB3:=tL HBr HBr.size b3;clear Br c10 AL HBr b3;have hRl:R.length<=196605:=I;clear hlen;go_wp2_with fail;go_loopw[8] (fun iv wr=>∃k:Nat,k<=R.length/\iv= .int .i64 k/\Hid (∀j (hj:j<R.length),j<k->uk R[j]=0)/\al w3 wr) (fun iv _=>R.length-(intOf iv).toNat)
 case atStart=>exact⟨0,Nat.zero_le _,J,Y (fun j hj h=>by omega),Below.refl _ _⟩
 obtain⟨k,O,rfl,HJ,F⟩:=hrel;have HBr:=tL HB3 (vV HB3 (Nat.le_refl _)) F;by_cases Hh:k<R.length
 case pos=>
  have tQ:(k:Int)<R.length:=I;obtain⟨g,cur,hA,hB,hcl,hel⟩:=aiI I;subst hA;obtain⟨ck,hrg,hRR⟩:=hel k Hh;have CK:=Y (fun w' (b:al w w')=>xI ck R[k] w' (hRR.G b));have FK:=Y (FA'.out k Hh HJ.out);have HJ2:=Y (fun(hz:uk R[k]=0) j (hj:j<R.length) (hjk:j<k+1)=>(by by_cases e:j=k;(subst e;exact hz);exact HJ.out j hj I:uk R[j]=0));have Bk:=hB.G F hB.lt;have aoI:k*33+33<=cur.length:=I;clear hel hRR HJ;generalize uk (R[k]'Hh)=ek at*;go_wp2_with(refine tO (.load 119 (.tmp 74)) J ?_;go_must(refine tP J _ _ J g (k*33) dv Bk 33 aoI _ underlying119 J uu ck hrg ?_));refine(CK.out _ HBr).mono ?_;rintro _ w4 ⟨rfl,b4⟩;have HB4:=tL HBr HBr.size b4;have hb4:=tL F F.size b4;clear CK b4 HBr F Bk;by_cases he0:ek=0
  ·
   subst he0;go_wp2_with fail;go_roundw
   case rel=>exact⟨k+1,I,fU,Y (HJ2.out trivial),hb4⟩
   case measure=>simp[intOf];omega
  ·have e1:(ek !=0)=true:=iD;have e2:=FK.out he0;subst e2;have hr0:=HEX.out;subst hr0;clear HEX FK HJ2 he0;exact qD
 obtain rfl:k=R.length:=I;have hf0:=FA.out (fun j hj=>HJ.out j hj hj);subst hf0;obtain rfl:=HEX.out;have tQ:¬(R.length:Int)<R.length:=I;clear HJ Hh O HEX;exact rM
structure aem (m:vo) (pack:Bool) (s1 s4:WS):Prop where
 q:Fold vC m.qs (wO m pack) s1 s4.1.length
 r:Fold tZ m.BD s1 s4 s4.1.length
 eq:s4=DJ m pack
theorem Zo(m:vo)(pack:Bool)(hq:m.qs.length<=100)(hr:m.BD.length<=200):∃s1 s4,aem m pack s1 s4:=by
 have f0:=Nv m pack;have f1:=Fh m.qs _ _ f0;have e1:=zt m.BD (m.qs.foldl vC (wO m pack));exact⟨_,_,Rh m.qs _ 0 _ f0 I I,Hy m.BD _ _ _ f1 (Nat.le_refl _) I,J⟩
theorem WO(l:List Qn):∀st:WS,(l.foldl vC st).1.length<=st.1.length+304*l.length:=by
 induction l with
 |nil=>intro st;simp
 |cons q l ih=>
  intro st;have:=ih (vC st q);have X:=wL st.2 (st.1.length:Int) q.name;have h3:(vC st q).1.length<=st.1.length+304:=by simp only[vC,List.length_append,tR];omega
  simp only[List.foldl_cons,List.length_cons];omega
theorem vp.adb(h:vp lo w w')(F:Z w g 50 cs):Z w' g 50 cs:=h.2 g _ cs F ax ax
theorem vp.aa8(h:vp lo w w')(F:Z w g 28 cs):Z w' g 28 cs:=h.2 g _ cs F ax ax
theorem vp.size{w1:World}(h:vp lo w w1)(tK:lo<=w.heap.size):lo<=w1.heap.size:=vV h.1 tK
theorem Fq{w0:World}{A:Option Addr}{l:List RR}(h:YW w0 w A l)(O:vp lo w w'):YW w0 w' A l:=by
 intro hp;obtain⟨g,cur,U,X,h3,h4⟩:=h hp;exact⟨g,cur,U,O.uG X,h3,h4⟩
theorem Ln(cs:List Value)(m:vo)(pack:Bool)(Aq Aa Au Ae:Option Addr)(cq ca cu ce:Nat)(w:World)(h:yZ w cs m Aq Aa Au Ae cq ca cu ce)(hc:vU m≠0):
  Calls prog 72 #[.agg cs.toArray,.bool pack] w (uf (.tuple #[.string (bs []),.int .i64 (vU m)]) w):=by
 have hl:cs.length=14:=mi;have CK:=Y (fun w' (b:al w w')=>Gp cs m Aq Aa Au Ae cq ca cu ce w' (h.G b));generalize vU m=e at*;have he:(e !=0)=true:=iK;clear hc h;have B0:=Z.new w 50 cs;have HB0:Below w.heap.size w (w.alloc (.cells cs.toArray 50)):=gj;go_enter func72,ntmps72;exact pH
theorem JQ(cs:List Value)(m:vo)(pack:Bool)(Aq Aa Au Ae:Option Addr)(cq ca cu ce:Nat)(w:World)(h:yZ w cs m Aq Aa Au Ae cq ca cu ce)(hc:vU m=0)(hq:m.qs.length<=100)(hr:m.BD.length<=200):
  Calls prog 72 #[.agg cs.toArray,.bool pack] w (uf (.tuple #[.string (bs (vg m pack).1),.int .i64 (vg m pack).2]) w):=by
 have MK:=Pb hc;obtain⟨s1,s4,PL⟩:=Zo m pack hq hr;have hcs:=h.hcs;have hl:cs.length=14:=iB;have L10:cs[10]?=some (.slice Aq m.qs.length cq):=bI;have L11:cs[11]?=some (.slice Aa m.an.length ca):=bI;have L12:cs[12]?=some (.slice Au m.au.length cu):=bI;have L13:cs[13]?=some (.slice Ae m.ex.length ce):=bI;have LH:(cs.drop 0).take 10=m.hd.vJ:=bI;have AL:=Y (fun w' (b:al w w')=>Vj cs m Aq Aa Au Ae cq ca cu ce w w' h b MK.la MK.lu MK.le);have CK:=Y (fun w' (b:al w w')=>Gp cs m Aq Aa Au Ae cq ca cu ce w' (h.G b));rw[hc]at CK;have HP:Hid (∀w,Calls prog 111 #[.agg m.hd.vJ.toArray,.agg #[.int .i64 (m.qs.length:Int),.int .i64 (m.an.length:Int),.int .i64 (m.au.length:Int),.int .i64 (m.ex.length:Int)]] w (uf (.tuple #[.string (bs (wO m pack).1),.int .i64 0]) w)):=Y (fun w=>by
  have:=KV m.hd m.qs.length m.an.length m.au.length m.ex.length w;rw[NK MK pack]at this;exact this)
 have RL:Hid (65535<s4.1.length->(vg m pack).1=[]/\(vg m pack).2=3):=kJ;have RO:Hid (¬65535<s4.1.length->(vg m pack).1=s4.1/\(vg m pack).2=0):=jZ;have hq':=h.hq;have FQ:=Y PL.q;have FR:=Y PL.r;have RC:Hid (∀k (O:k<m.BD.length),uk m.BD[k]=0):=Y (fun k O=>MK.r _ (List.getElem_mem O));have h12:=Iz m pack;have QM:Hid (∀k,((m.qs.take k).foldl vC (wO m pack)).1.length<=50000):=Y (fun k=>by
  have:=WO (m.qs.take k) (wO m pack);have X:(m.qs.take k).length<=100:=dg;omega)
 have hT0:(wO m pack).2=if pack then some []else none:=rfl
 clear h hcs hc MK PL;generalize(vg m pack).1=o1 at*;generalize(vg m pack).2=o2 at*;generalize wO m pack=s0 at*;generalize m.hd.vJ=HV,m.BD=R at*;generalize m.qs=Q,m.an.length=na at*;generalize m.au.length=nu,m.ex.length=ne at*;have B0:=Z.new w 50 cs;have HB0:Below w.heap.size w (w.alloc (.cells cs.toArray 50)):=gj;go_enter func72,ntmps72;go_wp2_with(refine tO (.load 50 (.tmp 2)) J ?_;go_must(refine tP J _ _ J w.heap.size 0 J B0 14 I _ underlying50 J ux cs (wg I) ?_));go_wp2_with fail;refine(CK.out _ HB0).mono ?_;rintro _ w1 ⟨rfl,b1⟩;have B1:=B0.G b1 B0.lt;have HB1:=tL HB0 HB0.size b1;clear B0 HB0 b1 CK;go_upto_if 25 with fail;go_cut[7] (fun v wx=>∃p,v= .pointer p/\Dp w1.heap.size wx p s0.2/\vp w1.heap.size w1 wx)
 case first=>
  cases pack with
  |false=>
   have hT1:s0.2=none:=hT0;go_wp2_with fail;go_meet
   case rel=>exact⟨none,J,by rw[hT1];rfl,vp.refl _ _⟩
  |true=>
   have hT1:s0.2=some []:=hT0;have HT1:=Y hT1;clear hT1 hT0;go_wp2_with fail;go_meet
   case rel=>exact⟨_,J,by rw[HT1.out];exact⟨_,J,Nat.le_refl _,FY.new w1 _ J⟩,vp.zq ((Below.refl _ _).alloc (Nat.le_refl _) _) (Nat.le_refl _)⟩
 case rest=>
  obtain⟨p,rfl,T2,K2⟩:=hcut;clear hT0;generalize wc=w2 at*;have B2:=K2.adb B1;have c10:=B2.K 10 L10;have c11:=B2.K 11 L11;have c12:=B2.K 12 L12;have c13:=B2.K 13 L13;have agm:=K2.size (Nat.le_refl _);go_wp2_with(refine tO (.load 46 (.tmp 29)) J ?_;go_must(refine tP J _ _ J w.heap.size 0 J B2 10 I _ underlying46 J Cf HV LH ?_));refine(HP.out _).mono ?_;rintro _ w3 ⟨rfl,b3⟩;have T3:=T2.G agm b3;have K3:=K2.trans (vp.zq b3 agm);have B3:=K3.adb B1;clear c10 c11 c12 c13 HP LH B2 T2 K2 b3 agm L11 L12 L13;have c10:=B3.K 10 L10;go_wp2_with fail;go_loopw[8,10] (fun sv iv wr=>∃k:Nat,k<=Q.length/\iv= .int .i64 k/\sv= .string (bs ((Q.take k).foldl vC s0).1)/\Dp w1.heap.size wr p ((Q.take k).foldl vC s0).2/\vp w1.heap.size w1 wr) (fun _ iv _=>Q.length-(intOf iv).toNat)
  case atStart=>exact⟨0,Nat.zero_le _,J,J,T3,K3⟩
  clear c10 T3 K3 B3;obtain⟨k,O,rfl,rfl,Tr,Kr⟩:=hrel;have Br:=Kr.adb B1;have c10:=Br.K 10 L10;have HBr:al w wr:=HB1.trans (Kr.1.mono HB1.size);have tK:=Kr.size (Nat.le_refl _);by_cases Hh:k<Q.length
  case pos=>
   have tQ:(k:Int)<Q.length:=I;obtain⟨ba,oa,hA,hba,hel⟩:=hq' I;subst hA;obtain⟨An,cn,hrg,hN⟩:=hel k Hh;have hRk:=tX hrg HBr hba;have ST:=Y (FQ.out.step k Hh);have FW:=FQ.out.few k;have PT:=Y (fun w' (b:al wr w')=>AH w1.heap.size p ((Q.take k).foldl vC s0).2 An cn Q[k].name (((Q.take k).foldl vC s0).1.length:Int) w w' HB1.size (tL HBr HBr.size b) (Nat.le_trans tK b.size) (Tr.G tK b) hN (FW.mono I));have xm:=QM.out k;have xl:=wL ((Q.take k).foldl vC s0).2 (((Q.take k).foldl vC s0).1.length:Int) Q[k].name;have P1:=Y (fun w=>yl Q[k].E w);have P2:=Y (fun w=>yl Q[k].N w);have l1:=tR 2 Q[k].E;have l2:=tR 2 Q[k].N;unfold qC at hRk;have S1:Hid (((Q.take (k+1)).foldl vC s0).1=((Q.take k).foldl vC s0).1++uE ((Q.take k).foldl vC s0).2 (((Q.take k).foldl vC s0).1.length:Int) Q[k].name++tT 2 Q[k].E++tT 2 Q[k].N):=Y (congrArg Prod.fst ST.out);have S2:Hid (((Q.take (k+1)).foldl vC s0).2=vf ((Q.take k).foldl vC s0).2 (((Q.take k).foldl vC s0).1.length:Int) Q[k].name):=Y (congrArg Prod.snd ST.out);clear hel hrg hN FW ST;generalize vf ((Q.take k).foldl vC s0).2 (((Q.take k).foldl vC s0).1.length:Int) (Q[k]'Hh).name=T' at*;generalize uE ((Q.take k).foldl vC s0).2 (((Q.take k).foldl vC s0).1.length:Int) (Q[k]'Hh).name=x at*;obtain⟨s,hs⟩:∃s,s=((Q.take k).foldl vC s0).1:=gp;rw[<-hs]at PT xm S1⊢;clear hs;generalize tT 2 (Q[k]'Hh).E=y1 at*;generalize tT 2 (Q[k]'Hh).N=y2 at*;generalize tY (Q[k]'Hh).name=e at*;generalize(Q[k]'Hh).name.length=nl at*;generalize(Q[k]'Hh).E=E at*;generalize(Q[k]'Hh).N=N at*;go_wp2_with(refine tO (.load 28 (.tmp 57)) J ?_;go_must(refine vM J 28 (.tmp 57) J ba (oa+k*3) J [.slice An nl cn,.int .i64 E,.int .i64 N] hRk _ underlying28 J xh ?_));have bo:Below wr.heap.size wr (wr.alloc (.cells #[.slice An nl cn,.int .i64 E,.int .i64 N] 28)):=gj;have Bq:=Z.new wr 28 [.slice An nl cn,.int .i64 E,.int .i64 N];refine(PT.out _ bo).mono ?_;rintro _ w4 ⟨rfl,T4,K4⟩;have Bq4:=K4.aa8 Bq;have K4':=(Kr.trans (vp.zq bo tK)).trans K4;have afL:=K4'.size (Nat.le_refl _);clear PT K4 bo tK Tr Kr HBr hRk Bq c10 Br;go_wp2_with fail;refine xz (by kernel_rfl) (by kernel_rfl) ?_
   (refine tW (v:=(.string (bs s))) J (fun W hW=>by first|(go_simp;done)|(go_simp;omega)) ?_;simp only[z])
   (refine tW (v:=(.string (bs x))) J (fun W hW=>by first|(go_simp;done)|(go_simp;omega)) ?_;simp only[z])
   (refine tW (v:=(.string (bs (s++x)))) J (fun W hW=>by first|(go_simp;done)|(go_simp;omega)) ?_;simp only[z])
   (refine tW (v:=(.pointer (some ⟨wr.heap.size,1,none⟩))) J (fun W hW=>by first|(go_simp;done)|(go_simp;omega)) ?_;simp only[z])
   refine vr 3 (.tmp 71) J ⟨wr.heap.size,1,none⟩ J J (fun W hW=>tV underlying3 J ((Bq4.G hW Bq4.lt).K 1 J)) ?_;simp only[z];refine vN 84 #[.int .i64 2,.int .i64 E] J (fun W=>by go_simp) (fun W hW=>uf.zq hW (P1.out W)) ?_;simp only[z]
   (refine tW (v:=(.string (bs (s++x++y1)))) J (fun W hW=>by first|(go_simp;done)|(go_simp;omega)) ?_;simp only[z])
   (refine tW (v:=(.pointer (some ⟨wr.heap.size,2,none⟩))) J (fun W hW=>by first|(go_simp;done)|(go_simp;omega)) ?_;simp only[z])
   refine vr 3 (.tmp 75) J ⟨wr.heap.size,2,none⟩ J J (fun W hW=>tV underlying3 J ((Bq4.G hW Bq4.lt).K 2 J)) ?_;simp only[z];refine vN 84 #[.int .i64 2,.int .i64 N] J (fun W=>by go_simp) (fun W hW=>uf.zq hW (P2.out W)) ?_;simp only[z]
   (refine tW (v:=(.string (bs (s++x++y1++y2)))) J (fun W hW=>by first|(go_simp;done)|(go_simp;omega)) ?_;simp only[z])
   (refine tW (v:=(.string (bs (s++x++y1++y2)))) J (fun W hW=>by first|(go_simp;done)|(go_simp;omega)) ?_;simp only[z])
   refine wpQuiet_nil ?_;intro w5 b5;have T5:=T4.G afL b5;have K5:=K4'.trans (vp.zq b5 afL);clear T4 K4' b5 Bq4 P1 P2;go_wp2_with fail;go_roundw
   case rel=>exact⟨k+1,I,fU,by rw[S1.out],by rw[S2.out];exact T5,K5⟩
   case measure=>simp[intOf];omega
  obtain rfl:k=Q.length:=I;have tQ:¬(Q.length:Int)<Q.length:=I;have xm:=QM.out Q.length;rw[FQ.out.done]at Tr xm⊢;clear Hh O FQ hq' QM L10 h12;go_wp2_with(refine tO (.load 50 (.tmp 2)) J ?_;go_must(refine tP J _ _ J w.heap.size 0 J Br 14 I _ underlying50 J ux cs (wg I) ?_));refine(AL.out _ HBr).mono ?_;rintro _ wa ⟨A,c,rfl,aiI,ba⟩;replace Tr:=Tr.G tK ba;replace Kr:=Kr.trans (vp.zq ba tK);clear Br ba AL c10 HBr tK;clear B1;go_wp2_with fail;go_loopw[8,15] (fun sv iv wr=>∃k:Nat,k<=R.length/\iv= .int .i64 k/\sv= .string (bs ((R.take k).foldl tZ s1).1)/\((R.take k).foldl tZ s1).1.length<=10000000/\Dp w1.heap.size wr p ((R.take k).foldl tZ s1).2/\vp w1.heap.size w1 wr/\YW w wr A R) (fun _ iv _=>R.length-(intOf iv).toNat)
  case atStart=>exact⟨0,Nat.zero_le _,J,J,az,Tr,Kr,aiI⟩
  clear aiI Tr Kr;obtain⟨k,O,rfl,rfl,hmx,Tr,Kr,aiI⟩:=hrel;have HBr:al w wr:=HB1.trans (Kr.1.mono HB1.size);have tK:=Kr.size (Nat.le_refl _);by_cases Hh:k<R.length
  case neg=>
   obtain rfl:k=R.length:=I;have tQ:¬(R.length:Int)<R.length:=I;rw[FR.out.done]at hmx⊢;clear Hh O FR;by_cases h5:65535<s4.1.length
   ·obtain⟨rfl,rfl⟩:=RL.out h5;have h5':(65535:Int)<s4.1.length:=I;clear RL RO;exact sG
   ·obtain⟨rfl,rfl⟩:=RO.out h5;have h5':¬(65535:Int)<s4.1.length:=I;clear RL RO;exact sG
  have tQ:(k:Int)<R.length:=I;have LN:=FR.out.len k;by_cases h5:65535<((R.take k).foldl tZ s1).1.length
  case pos=>obtain⟨rfl,rfl⟩:=RL.out (Nat.lt_of_lt_of_le h5 LN);have h5':(65535:Int)<((R.take k).foldl tZ s1).1.length:=I;have axP:¬(((R.take k).foldl tZ s1).1.length:Int)<=65535:=I;generalize((R.take k).foldl tZ s1).1=s at*;clear RL RO LN;exact sG
  have h5':¬(65535:Int)<((R.take k).foldl tZ s1).1.length:=I;have axP:(((R.take k).foldl tZ s1).1.length:Int)<=65535:=I;clear LN;obtain⟨g,cur,hA,hB,hcl,hel⟩:=aiI I;subst hA;obtain⟨ck,hrg,hRR⟩:=hel k Hh;have ckl:=hRR.len;have hwf:=hRR.wf;have aoI:k*33+33<=cur.length:=I;obtain⟨An,cn,M0,hN⟩:∃(An:Option Addr) (cn:Nat),ck[0]?=some (Value.slice An R[k].name.length cn)/\xj w An cn R[k].name:=by obtain⟨An,cn,At,ct,Am,cm,rfl,hr,hN,_⟩:=hRR;exact⟨An,cn,J,hN⟩
  have M1:ck[1]?=some (.int .i64 R[k].E):=iR;have M2:ck[2]?=some (.int .i64 R[k].N):=iR;have M3:ck[3]?=some (.int .i64 R[k].ak):=iR;have cg:∀j,j<33->cur[k*33+j]?=ck[j]?:=fun j hj=>by rw[<-hrg,List.getElem?_take_of_lt hj,List.getElem?_drop]
  have N0:cur[k*33]?=some (.slice An R[k].name.length cn):=(cg 0 I).trans M0;have N1:cur[k*33+1]?=some (.int .i64 R[k].E):=(cg 1 I).trans M1;have N2:cur[k*33+2]?=some (.int .i64 R[k].N):=(cg 2 I).trans M2;have N3:cur[k*33+3]?=some (.int .i64 R[k].ak):=(cg 3 I).trans M3;clear cg M0 M1 M2 M3;have ST:=FR.out.step k Hh;have FW:=FR.out.few k;have hck:=RC.out k Hh;have hsn:=DT (st:=(R.take k).foldl tZ s1) (r:=R[k]) I hwf hck;have hdl:=IA hwf hck (zA ((R.take k).foldl tZ s1) R[k]) ((yz ((R.take k).foldl tZ s1) R[k]).length+2);replace hdl:(yR ((R.take k).foldl tZ s1) R[k]).length<=70000:=hdl;have xl:=wL ((R.take k).foldl tZ s1).2 (((R.take k).foldl tZ s1).1.length:Int) R[k].name;have l1:=tR 2 R[k].E;have l2:=tR 2 R[k].N;have l3:=tR 4 R[k].ak;have l4:=tR 2 ((yR ((R.take k).foldl tZ s1) R[k]).length:Int);have hfT:yQ (zA ((R.take k).foldl tZ s1) R[k]) 800000:=(FW.put _ _).mono I;have M:yz ((R.take k).foldl tZ s1) R[k]=((R.take k).foldl tZ s1).1++uE ((R.take k).foldl tZ s1).2 (((R.take k).foldl tZ s1).1.length:Int) R[k].name++tT 2 R[k].E++tT 2 R[k].N++tT 4 R[k].ak:=rfl;have hsl:(yz ((R.take k).foldl tZ s1) R[k]).length<=70000:=by rw[M];simp only[List.length_append];omega
  have PT:Hid (∀w':World,al wr w'->Calls prog 112 #[.pointer p,.slice An R[k].name.length cn,.int .i64 (((R.take k).foldl tZ s1).1.length:Int)] w' (Rg w1.heap.size p (uE ((R.take k).foldl tZ s1).2 (((R.take k).foldl tZ s1).1.length:Int) R[k].name) (tY R[k].name) (zA ((R.take k).foldl tZ s1) R[k]) w')):=Y (fun w' b=>AH w1.heap.size p ((R.take k).foldl tZ s1).2 An cn R[k].name (((R.take k).foldl tZ s1).1.length:Int) w w' HB1.size (tL HBr HBr.size b) (Nat.le_trans tK b.size) (Tr.G tK b) hN (FW.mono I));have D:=Y (fun w' (b:al w w') (aiF:w1.heap.size<=w'.heap.size) (hT':Dp w1.heap.size w' p (zA ((R.take k).foldl tZ s1) R[k]))=>Pr w1.heap.size ck R[k] ((yz ((R.take k).foldl tZ s1) R[k]).length+2) p (zA ((R.take k).foldl tZ s1) R[k]) w w' hRR HB1.size b aiF hT' hfT I I);have er1:Gk (zA ((R.take k).foldl tZ s1) R[k]) ((yz ((R.take k).foldl tZ s1) R[k]).length+2) R[k]=yR ((R.take k).foldl tZ s1) R[k]:=by unfold Gk;rw[if_pos hck];rfl
  have er2:Gl (zA ((R.take k).foldl tZ s1) R[k]) ((yz ((R.take k).foldl tZ s1) R[k]).length+2) R[k]=(tZ ((R.take k).foldl tZ s1) R[k]).2:=by unfold Gl;rw[if_pos hck];rfl
  rw[er1,er2,hck]at D;have S1:((R.take (k+1)).foldl tZ s1).1=yz ((R.take k).foldl tZ s1) R[k]++tT 2 (yR ((R.take k).foldl tZ s1) R[k]).length++yR ((R.take k).foldl tZ s1) R[k]:=congrArg Prod.fst ST;have S2:((R.take (k+1)).foldl tZ s1).2=(tZ ((R.take k).foldl tZ s1) R[k]).2:=congrArg Prod.snd ST;have S3:((R.take (k+1)).foldl tZ s1).1.length<=10000000:=by rw[ST];exact hsn
  have S1':=Y S1;have S2':=Y S2;have S3':=Y S3;have Q1:=Y (fun w=>yl R[k].E w);have Q2:=Y (fun w=>yl R[k].N w);have Q3:=Y (fun w=>zw R[k].ak w);have Q4:=Y (fun w=>yl ((yR ((R.take k).foldl tZ s1) R[k]).length:Int) w);have HS:=Y M;clear S1 S2 S3 er1 er2 hfT hwf hck hRR hN hel ST FW hsn M;generalize(tZ ((R.take k).foldl tZ s1) (R[k]'Hh)).2=T2 at*;generalize zA ((R.take k).foldl tZ s1) (R[k]'Hh)=T1 at*;generalize tT 2 ((yR ((R.take k).foldl tZ s1) (R[k]'Hh)).length:Int)=y4 at*;generalize yR ((R.take k).foldl tZ s1) (R[k]'Hh)=d at*;generalize yz ((R.take k).foldl tZ s1) (R[k]'Hh)=sr at*;generalize uE ((R.take k).foldl tZ s1).2 (((R.take k).foldl tZ s1).1.length:Int) (R[k]'Hh).name=x at*;generalize((R.take k).foldl tZ s1).2=T0 at*;generalize((R.take k).foldl tZ s1).1=s at*;generalize tT 2 (R[k]'Hh).E=y1 at*;generalize tT 2 (R[k]'Hh).N=y2 at*;generalize tT 4 (R[k]'Hh).ak=y3 at*;generalize tY (R[k]'Hh).name=e at*;generalize(R[k]'Hh).name.length=nl at*;generalize(R[k]'Hh).E=E at*;generalize(R[k]'Hh).N=N at*;generalize(R[k]'Hh).ak=ak at*;have c0:=hB.K (k*33) N0;go_wp2_with fail;refine(PT.out _ (Below.refl _ _)).mono ?_;rintro _ w4 ⟨rfl,T4,K4⟩;have B4:=K4.uG hB;have R4:=Fq aiI K4;have K4':=Kr.trans K4;have afL:=K4'.size (Nat.le_refl _);clear PT K4 Tr Kr HBr tK hB aiI c0 N0;go_wp2_with fail;refine xz (by kernel_rfl) (by kernel_rfl) ?_
  (refine tW (v:=(.string (bs s))) J (fun W hW=>by first|(go_simp;done)|(go_simp;omega)) ?_;simp only[z])
  (refine tW (v:=(.string (bs x))) J (fun W hW=>by first|(go_simp;done)|(go_simp;omega)) ?_;simp only[z])
  (refine tW (v:=(.string (bs (s++x)))) J (fun W hW=>by first|(go_simp;done)|(go_simp;omega)) ?_;simp only[z])
  (refine tW (v:=(.slice (some ⟨g,0,none⟩) R.length c)) J (fun W hW=>by first|(go_simp;done)|(go_simp;omega)) ?_;simp only[z])
  (refine tW (v:=(.int .i64 k)) J (fun W hW=>by first|(go_simp;done)|(go_simp;omega)) ?_;simp only[z])
  (refine tW (v:=(.pointer (some ⟨g,k*33,none⟩))) J (fun W hW=>by first|(go_simp;done)|(go_simp;omega)) ?_;simp only[z])
  (refine tW (v:=(.pointer (some ⟨g,k*33+1,none⟩))) J (fun W hW=>by first|(go_simp;done)|(go_simp;omega)) ?_;simp only[z])
  refine vr 3 (.tmp 110) J ⟨g,k*33+1,none⟩ J J (fun W hW=>tV underlying3 J ((B4.G hW B4.lt).K (k*33+1) N1)) ?_;simp only[z];refine vN 84 #[.int .i64 2,.int .i64 E] J (fun W=>by go_simp) (fun W hW=>uf.zq hW (Q1.out W)) ?_;simp only[z]
  (refine tW (v:=(.string (bs (s++x++y1)))) J (fun W hW=>by first|(go_simp;done)|(go_simp;omega)) ?_;simp only[z])
  (refine tW (v:=(.slice (some ⟨g,0,none⟩) R.length c)) J (fun W hW=>by first|(go_simp;done)|(go_simp;omega)) ?_;simp only[z])
  (refine tW (v:=(.int .i64 k)) J (fun W hW=>by first|(go_simp;done)|(go_simp;omega)) ?_;simp only[z])
  (refine tW (v:=(.pointer (some ⟨g,k*33,none⟩))) J (fun W hW=>by first|(go_simp;done)|(go_simp;omega)) ?_;simp only[z])
  (refine tW (v:=(.pointer (some ⟨g,k*33+2,none⟩))) J (fun W hW=>by first|(go_simp;done)|(go_simp;omega)) ?_;simp only[z])
  refine vr 3 (.tmp 117) J ⟨g,k*33+2,none⟩ J J (fun W hW=>tV underlying3 J ((B4.G hW B4.lt).K (k*33+2) N2)) ?_;simp only[z];refine vN 84 #[.int .i64 2,.int .i64 N] J (fun W=>by go_simp) (fun W hW=>uf.zq hW (Q2.out W)) ?_;simp only[z]
  (refine tW (v:=(.string (bs (s++x++y1++y2)))) J (fun W hW=>by first|(go_simp;done)|(go_simp;omega)) ?_;simp only[z])
  (refine tW (v:=(.slice (some ⟨g,0,none⟩) R.length c)) J (fun W hW=>by first|(go_simp;done)|(go_simp;omega)) ?_;simp only[z])
  (refine tW (v:=(.int .i64 k)) J (fun W hW=>by first|(go_simp;done)|(go_simp;omega)) ?_;simp only[z])
  (refine tW (v:=(.pointer (some ⟨g,k*33,none⟩))) J (fun W hW=>by first|(go_simp;done)|(go_simp;omega)) ?_;simp only[z])
  (refine tW (v:=(.pointer (some ⟨g,k*33+3,none⟩))) J (fun W hW=>by first|(go_simp;done)|(go_simp;omega)) ?_;simp only[z])
  refine vr 3 (.tmp 124) J ⟨g,k*33+3,none⟩ J J (fun W hW=>tV underlying3 J ((B4.G hW B4.lt).K (k*33+3) N3)) ?_;simp only[z];refine vN 84 #[.int .i64 4,.int .i64 ak] J (fun W=>by go_simp) (fun W hW=>uf.zq hW (Q3.out W)) ?_;simp only[z]
  (refine tW (v:=(.string (bs (s++x++y1++y2++y3)))) J (fun W hW=>by first|(go_simp;done)|(go_simp;omega)) ?_;simp only[z])
  (refine tW (v:=(.string (bs (s++x++y1++y2++y3)))) J (fun W hW=>by first|(go_simp;done)|(go_simp;omega)) ?_;simp only[z])
  refine wpQuiet_nil ?_;intro w5 b5;rw[<-HS.out];have T5:=T4.G afL b5;have K5:=K4'.trans (vp.zq b5 afL);have B5:=B4.G b5 B4.lt;have R5:=Fq R4 (vp.zq b5 afL);have ahw:=K5.size (Nat.le_refl _);have HB5:al w w5:=HB1.trans (K5.1.mono HB1.size);clear T4 K4' b5 B4 R4 Q1 Q2 Q3 N1 N2 N3 afL;go_wp2_with(refine tO (.load 119 (.tmp 131)) J ?_;go_must(refine tP J _ _ J g (k*33) dv B5 33 aoI _ underlying119 J uu ck hrg ?_));refine(D.out _ HB5 ahw T5).mono ?_;rintro _ w6 ⟨rfl,T6,K6⟩;have K6':=K5.trans K6;have R6:=Fq R5 K6;have aib:=K6'.size (Nat.le_refl _);clear D T5 K5 R5 B5 HB5 K6 ahw;go_wp2_with fail;refine(Q4.out _).mono ?_;rintro _ w7 ⟨rfl,b7⟩;have T7:=T6.G aib b7;have K7:=K6'.trans (vp.zq b7 aib);have R7:=Fq R6 (vp.zq b7 aib);clear T6 K6' R6 b7 Q4;go_wp2_with fail;go_roundw
  case rel=>exact⟨k+1,I,fU,by rw[S1'.out,List.append_assoc],S3'.out,by rw[S2'.out];exact T7,K7,R7⟩
  case measure=>simp[intOf];omega
theorem Rj(cs:List Value)(m:vo)(pack:Bool)(Aq Aa Au Ae:Option Addr)(cq ca cu ce:Nat)(w:World)(h:yZ w cs m Aq Aa Au Ae cq ca cu ce)(hq:m.qs.length<=700)(hr:m.BD.length<=400):
  Calls prog 115 #[.agg cs.toArray,.bool pack] w (uf (.tuple #[.string (bs (vg m pack).1),.int .i64 (vg m pack).2]) w):=by
 by_cases hc:vU m=0
 ·exact Ps cs m pack Aq Aa Au Ae cq ca cu ce w h hc hq hr
 ·rw[Hs pack hc];exact Ri cs m pack Aq Aa Au Ae cq ca cu ce w h hc
theorem Lo(cs:List Value)(m:vo)(pack:Bool)(Aq Aa Au Ae:Option Addr)(cq ca cu ce:Nat)(w:World)(h:yZ w cs m Aq Aa Au Ae cq ca cu ce)(hq:m.qs.length<=100)(hr:m.BD.length<=200):
  Calls prog 72 #[.agg cs.toArray,.bool pack] w (uf (.tuple #[.string (bs (vg m pack).1),.int .i64 (vg m pack).2]) w):=by
 by_cases hc:vU m=0
 ·exact JQ cs m pack Aq Aa Au Ae cq ca cu ce w h hc hq hr
 ·rw[Hs pack hc];exact Ln cs m pack Aq Aa Au Ae cq ca cu ce w h hc
def m14:vo:=⟨Hd.zero,[⟨[[97],[98]],1,1⟩],[],[],[]⟩
end Go.Proofs.YthnbcmlnpdabhaaGreat
