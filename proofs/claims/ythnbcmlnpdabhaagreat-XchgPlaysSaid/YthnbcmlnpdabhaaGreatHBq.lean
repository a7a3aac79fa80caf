/-
  Layer 14 (message):Check.
-/
import Derived.Test.YthnbcmlnpdabhaaGreatHAq
import Derived.Test.YthnbcmlnpdabhaaGreatGW2q
namespace Go.Proofs.YthnbcmlnpdabhaaGreat
open _root_.Go.Proofs.Tryz
set_option maxHeartbeats 8000000
open Go.RowKit
set_option maxRecDepth 100000
set_option linter.unusedVariables false
set_option linter.unusedSimpArgs false
variable {w w':World} {cs:List Value} {lo g:Nat}
theorem Ml(cs:List Value)(m:vU)(Aq Aa Au Ae:Option Addr)(cq ca cu ce:Nat)(w:World)(h:zB w cs m Aq Aa Au Ae cq ca cu ce):
  Calls prog 165 #[.agg cs.toArray] w (uI (.int .i64 (wH m)) w):=by
 have hS:=h.hS;have hl:cs.length=14:=iK;have L10:cs[10]?=some (.slice Aq m.qs.length cq):=bI;have LH:(cs.drop 0).take 10=m.hd.ww:=bI;have LI:=Y (fun w=>Oe m.hd (.slice Aq m.qs.length cq) Aa Au Ae m.an.length m.au.length m.ex.length ca cu ce w);rw[<-hS]at LI;have CH:Hid (∀w,Calls prog 203 #[.agg m.hd.ww.toArray] w (uI (.int .i64 (if m.hd.ok then 0 else 4)) w)):=Y (fun w=>AX m.hd w);have lq:=h.lq;have la:=h.la;have lu:=h.lu;have le:=h.le;have hq:=h.hq;have ha:=h.ha;have hu:=h.hu;have he:=h.he;have HE:=Y (Xp m);have FQ:=Y (FZ qE m.qs);have FQ':=Y (DR qE m.qs);have FA:=Y (FZ uN m.an);have FA':=Y (DR uN m.an);have FU:=Y (FZ uN m.au);have FU':=Y (DR uN m.au);have FE:=Y (FZ uN m.ex);have FE':=Y (DR uN m.ex);clear h hS;generalize wH m=res at*;generalize yk (m.qs.map qE)=fq at*;generalize yk (m.an.map uN)=fa at*;generalize yk (m.au.map uN)=fu at*;generalize yk (m.ex.map uN)=fe at*;generalize m.hd.ww=HV,m.hd.ok=ok at*;generalize m.qs=Q,m.an=LA at*;generalize m.au=LU,m.ex=LE at*;have B0:=F.new w 50 cs;have HB0:Below w.heap.size w (w.alloc (.cells cs.toArray 50)):=gF;go_enter func165,ntmps165;go_wp2_with(refine ur (.load 46 (.tmp 14)) J ?_;go_must(refine uu J _ _ J w.heap.size 0 J B0 10 I _ underlying46 J CO HV LH ?_));go_wp2_with fail;refine(CH.out _).mono ?_;rintro _ w1 ⟨rfl,b1⟩;have B1:=B0.G b1 B0.lt;have HB1:=um HB0 HB0.size b1;clear B0 HB0 b1 CH;cases ok with
 |false=>have hr0:=HE.out.trans (if_pos J);subst hr0;clear HE;exact th
 |true=>
 have HE1:=Y (HE.out.trans (if_neg ap));clear HE;have c10:=B1.M 10 L10;by_cases U:65535<Q.length
 case pos=>have h1':(65535:Int)<Q.length:=I;have hr0:=HE1.out.trans (if_pos (.inl U));subst hr0;clear HE1 U;exact th
 have h1':¬(65535:Int)<Q.length:=I;go_wp2_with(refine ur (.load 50 (.tmp 1)) J ?_;go_must(refine uu J _ _ J w.heap.size 0 J B1 14 I _ underlying50 J uW cs (wP I) ?_));go_wp2_with fail;refine(LI.out _).mono ?_;rintro _ w2 ⟨rfl,b2⟩;have B2:=B1.G b2 B1.lt;have ty:=um HB1 HB1.size b2;clear B1 HB1 b2 c10;have I0:∀w:World,(Instr.index 281 (.agg #[.slice Aa LA.length ca,.slice Au LU.length cu,.slice Ae LE.length ce]) (.int .i64 0)).run prog w= .ok (.slice Aa LA.length ca) w:=fun _=>by kernel_rfl
 have I1:∀w:World,(Instr.index 281 (.agg #[.slice Aa LA.length ca,.slice Au LU.length cu,.slice Ae LE.length ce]) (.int .i64 1)).run prog w= .ok (.slice Au LU.length cu) w:=fun _=>by kernel_rfl
 have I2:∀w:World,(Instr.index 281 (.agg #[.slice Aa LA.length ca,.slice Au LU.length cu,.slice Ae LE.length ce]) (.int .i64 2)).run prog w= .ok (.slice Ae LE.length ce) w:=fun _=>by kernel_rfl
 go_wp2_with fail;refine wp_loop_rounds 4 ?_;rw[rounds_succ];by_cases X:65535<LA.length
 case pos=>have h2':(65535:Int)<LA.length:=I;have hr0:=HE1.out.trans (if_pos (.inr (.inl X)));subst hr0;clear HE1 X U;exact qB
 have h2':¬(65535:Int)<LA.length:=I;go_wp2_with fail;rw[rounds_succ];by_cases h3:65535<LU.length
 case pos=>have h3':(65535:Int)<LU.length:=I;have hr0:=HE1.out.trans (if_pos (.inr (.inr (.inl h3))));subst hr0;clear HE1 h3 X U;exact qB
 have h3':¬(65535:Int)<LU.length:=I;go_wp2_with fail;rw[rounds_succ];by_cases h4:65535<LE.length
 case pos=>have h4':(65535:Int)<LE.length:=I;have hr0:=HE1.out.trans (if_pos (.inr (.inr (.inr h4))));subst hr0;clear HE1 h4 h3 X U;exact qB
 have h4':¬(65535:Int)<LE.length:=I;have HE2:=Y (HE1.out.trans (if_neg I));clear HE1;go_wp2_with fail;rw[rounds_succ];have c10:=B2.M 10 L10;go_wp2_with fail;clear I0 I1 I2 U X h3 h4;go_loopw[36] (fun iv wr=>∃k:Nat,k<=Q.length/\iv= .int .i64 k/\Hid (∀j (hj:j<Q.length),j<k->qE Q[j]=0)/\al w2 wr) (fun iv _=>Q.length-(intOf iv).toNat)
 case atStart=>exact⟨0,Nat.zero_le _,J,Y (fun j hj h=>by omega),Below.refl _ _⟩
 case round=>
  obtain⟨k,z,rfl,HJ,Z⟩:=hrel;have HBr:=um ty (wI ty (Nat.le_refl _)) Z;by_cases aB:k<Q.length
  ·
   have h1:(k:Int)<Q.length:=I;obtain⟨ba,oa,hA,hba,hel⟩:=hq I;subst hA;obtain⟨An,cn,hrg,hN⟩:=hel k aB;have hRk:=uD hrg HBr hba;unfold qC at hRk;have CK:=Y (fun w' (b:al w w')=>zG An cn Q[k].name w' (hN.G b).1 bB);have W1:=Y (fun w=>JR Q[k].O w);have W2:=Y (fun w=>JR Q[k].N w);have FK:=Y (FQ'.out k aB HJ.out);have HJ2:=Y (fun(hz:qE Q[k]=0) j (hj:j<Q.length) (hjk:j<k+1)=>(by by_cases e:j=k;(subst e;exact hz);exact HJ.out j hj I:qE Q[j]=0));have HQ:Hid (qE Q[k]=_):=Y (by unfold qE;rfl);clear hel hrg hN HJ;generalize qE (Q[k]'aB)=qe at*;generalize uE (Q[k]'aB).name=e0 at*;generalize(Q[k]'aB).name.length=nl at*;generalize yo 65535 (Q[k]'aB).O=i1 at*;generalize yo 65535 (Q[k]'aB).N=i2 at*;generalize(Q[k]'aB).O=O at*;generalize(Q[k]'aB).N=N at*;go_wp2_with(refine ur (.load 28 (.tmp 38)) J ?_;go_must(refine wj J 28 (.tmp 38) J ba (oa+k*3) J [.slice An nl cn,.int .i64 O,.int .i64 N] hRk _ underlying28 J xu ?_));have HBn:=HBr.alloc HBr.size (.cells #[.slice An nl cn,.int .i64 O,.int .i64 N] 28);have hbn:=Z.alloc Z.size (.cells #[.slice An nl cn,.int .i64 O,.int .i64 N] 28);refine(CK.out _ HBn).mono ?_;rintro _ w4 ⟨rfl,rfl⟩;clear CK hRk HBr Z;by_cases he0:e0=0
   case neg=>exact qN
   subst he0;replace HQ:=Y (HQ.out.trans (if_neg ap));go_wp2_with fail;refine(W1.out _).mono ?_;rintro _ w4 ⟨rfl,rfl⟩;clear W1;cases i1 with
   |false=>exact pI
   |true=>
   go_wp2_with fail;refine(W2.out _).mono ?_;rintro _ w4 ⟨rfl,rfl⟩;clear W2;cases i2 with
   |false=>exact pI
   |true=>exact rC
  ·
   obtain rfl:k=Q.length:=I;have hf0:=FQ.out (fun j hj=>HJ.out j hj hj);subst hf0;have HEX:=Y (HE2.out.trans (if_neg ap));have h1:¬(Q.length:Int)<Q.length:=I;have B3:=B2.G Z B2.lt;have HB3:=HBr;clear HJ aB FQ FQ' HE2 HBr Z B2 ty c10 hq;go_wp2_with(refine ur (.load 50 (.tmp 1)) J ?_;go_must(refine uu J _ _ J w.heap.size 0 J B3 14 I _ underlying50 J uW cs (wP I) ?_));refine(LI.out _).mono ?_;rintro _ wa ⟨rfl,ba⟩;have HBa:=um HB3 HB3.size ba;clear B3 HB3 ba LI;have I0:∀w:World,(Instr.index 281 (.agg #[.slice Aa LA.length ca,.slice Au LU.length cu,.slice Ae LE.length ce]) (.int .i64 0)).run prog w= .ok (.slice Aa LA.length ca) w:=fun _=>by kernel_rfl
   have I1:∀w:World,(Instr.index 281 (.agg #[.slice Aa LA.length ca,.slice Au LU.length cu,.slice Ae LE.length ce]) (.int .i64 1)).run prog w= .ok (.slice Au LU.length cu) w:=fun _=>by kernel_rfl
   have I2:∀w:World,(Instr.index 281 (.agg #[.slice Aa LA.length ca,.slice Au LU.length cu,.slice Ae LE.length ce]) (.int .i64 2)).run prog w= .ok (.slice Ae LE.length ce) w:=fun _=>by kernel_rfl
   go_wp2_with fail;refine wp_loop_rounds 4 ?_;have HBr:=HBa;clear HBa;rw[rounds_succ];go_wp2_with fail;go_loopw[64] (fun iv wr=>∃k:Nat,k<=LA.length/\iv= .int .i64 k/\Hid (∀j (hj:j<LA.length),j<k->uN LA[j]=0)/\al w wr) (fun iv _=>LA.length-(intOf iv).toNat)
   case atStart=>exact⟨0,Nat.zero_le _,J,Y (fun j hj h=>by omega),HBr⟩
   clear HBr;obtain⟨k,z,rfl,HJ,HBr⟩:=hrel;by_cases aB:k<LA.length
   case pos=>have h1:(k:Int)<LA.length:=I;obtain⟨ba,oa,hA,hba,hel⟩:=ha I;subst hA;obtain⟨ck,hrg,hRR⟩:=hel k aB;have hRk:=uD hrg HBr hba;have ckl:=hRR.len;have ck1:=Y hRR.one;have CK:=Y (fun w' (b:al w w')=>yK ck LA[k] w' (hRR.G b));have FK:=Y ((FA').out k aB HJ.out);have HJ2:=Y (fun(hz:uN LA[k]=0) j (hj:j<LA.length) (hjk:j<k+1)=>(by by_cases e:j=k;(subst e;exact hz);exact HJ.out j hj I:uN LA[j]=0));clear hel hrg hRR HJ;generalize uN (LA[k]'aB)=ek at*;exact o7
   obtain rfl:k=LA.length:=I;have hf0:=(FA).out (fun j hj=>HJ.out j hj hj);subst hf0;replace HEX:=Y (HEX.out.trans (if_neg ap));have h1:¬(LA.length:Int)<LA.length:=I;clear HJ aB z FA FA';go_wp2_with fail;rw[rounds_succ];go_wp2_with fail;go_loopw[64] (fun iv wr=>∃k:Nat,k<=LU.length/\iv= .int .i64 k/\Hid (∀j (hj:j<LU.length),j<k->uN LU[j]=0)/\al w wr) (fun iv _=>LU.length-(intOf iv).toNat)
   case atStart=>exact⟨0,Nat.zero_le _,J,Y (fun j hj h=>by omega),HBr⟩
   clear HBr;obtain⟨k,z,rfl,HJ,HBr⟩:=hrel;by_cases aB:k<LU.length
   case pos=>have h1:(k:Int)<LU.length:=I;obtain⟨ba,oa,hA,hba,hel⟩:=hu I;subst hA;obtain⟨ck,hrg,hRR⟩:=hel k aB;have hRk:=uD hrg HBr hba;have ckl:=hRR.len;have ck1:=Y hRR.one;have CK:=Y (fun w' (b:al w w')=>yK ck LU[k] w' (hRR.G b));have FK:=Y ((FU').out k aB HJ.out);have HJ2:=Y (fun(hz:uN LU[k]=0) j (hj:j<LU.length) (hjk:j<k+1)=>(by by_cases e:j=k;(subst e;exact hz);exact HJ.out j hj I:uN LU[j]=0));clear hel hrg hRR HJ;generalize uN (LU[k]'aB)=ek at*;exact o7
   obtain rfl:k=LU.length:=I;have hf0:=(FU).out (fun j hj=>HJ.out j hj hj);subst hf0;replace HEX:=Y (HEX.out.trans (if_neg ap));have h1:¬(LU.length:Int)<LU.length:=I;clear HJ aB z FU FU';go_wp2_with fail;replace HEX:Hid (res=if fe≠0 then fe else 0):=Y (by rw[HEX.out];by_cases h:fe=0<;>simp[h]);rw[rounds_succ];go_wp2_with fail;go_loopw[64] (fun iv wr=>∃k:Nat,k<=LE.length/\iv= .int .i64 k/\Hid (∀j (hj:j<LE.length),j<k->uN LE[j]=0)/\al w wr) (fun iv _=>LE.length-(intOf iv).toNat)
   case atStart=>exact⟨0,Nat.zero_le _,J,Y (fun j hj h=>by omega),HBr⟩
   clear HBr;obtain⟨k,z,rfl,HJ,HBr⟩:=hrel;by_cases aB:k<LE.length
   case pos=>have h1:(k:Int)<LE.length:=I;obtain⟨ba,oa,hA,hba,hel⟩:=he I;subst hA;obtain⟨ck,hrg,hRR⟩:=hel k aB;have hRk:=uD hrg HBr hba;have ckl:=hRR.len;have ck1:=Y hRR.one;have CK:=Y (fun w' (b:al w w')=>yK ck LE[k] w' (hRR.G b));have FK:=Y ((FE').out k aB HJ.out);have HJ2:=Y (fun(hz:uN LE[k]=0) j (hj:j<LE.length) (hjk:j<k+1)=>(by by_cases e:j=k;(subst e;exact hz);exact HJ.out j hj I:uN LE[j]=0));clear hel hrg hRR HJ;generalize uN (LE[k]'aB)=ek at*;exact o7
   obtain rfl:k=LE.length:=I;have hf0:=(FE).out (fun j hj=>HJ.out j hj hj);subst hf0;replace HEX:=Y (HEX.out.trans (if_neg ap));have h1:¬(LE.length:Int)<LE.length:=I;clear HJ aB z FE FE';go_wp2_with fail;obtain rfl:res=0:=HEX.out;rw[rounds_succ];exact sA
structure Fold {α:Type} (f:WS->α->WS) (l:List α) (sb se:WS) (aeH:Nat):Prop where
 len:∀k,((l.take k).foldl f sb).1.length<=aeH
 few:∀k,zm ((l.take k).foldl f sb).2 600000
 step:∀k (z:k<l.length),(l.take (k+1)).foldl f sb=f ((l.take k).foldl f sb) l[k]
 done:(l.take l.length).foldl f sb=se
theorem SJ(l:List Qn)(sb:WS)(n aeH:Nat)(hf:zm sb.2 n)(hE:(l.foldl wg sb).1.length<=aeH)(hn:n+254*l.length<=600000):Fold wg l sb (l.foldl wg sb) aeH:=
 ⟨fun k=>Nat.le_trans (UM l k sb) hE,fun k=>(Gf _ _ _ hf).mono dh,fun k z=>EO _ _ _ z _,by rw[List.take_length]⟩
theorem IC(l:List RR)(sb:WS)(n aeH:Nat)(hf:zm sb.2 n)(hE:(l.foldl uF sb).1.length<=aeH)(hn:n+762*l.length<=600000):Fold uF l sb (l.foldl uF sb) aeH:=
 ⟨fun k=>Nat.le_trans (UO l k sb) hE,fun k=>(Gg _ _ _ hf).mono dh,fun k z=>EO _ _ _ z _,by rw[List.take_length]⟩
structure afH (m:vU) (pack:Bool) (s1 s2 s3 s4:WS):Prop where
 q:Fold wg m.qs (xq m pack) s1 s4.1.length
 a:Fold uF m.an s1 s2 s4.1.length
 u:Fold uF m.au s2 s3 s4.1.length
 e:Fold uF m.ex s3 s4 s4.1.length
 eq:s4=Eo m pack
theorem ab8(m:vU)(pack:Bool)(hq:m.qs.length<=700)(hr:m.Cq.length<=400):∃s1 s2 s3 s4,afH m pack s1 s2 s3 s4:=by
 have hl:m.Cq.length=m.an.length+m.au.length+m.ex.length:=lU;have f0:=Of m pack;have f1:=Gf m.qs _ _ f0;have f2:=Gg m.an _ _ f1;have f3:=Gg m.au _ _ f2;have e3:=zR m.ex (m.au.foldl uF (m.an.foldl uF (m.qs.foldl wg (xq m pack))));have e2:=zR m.au (m.an.foldl uF (m.qs.foldl wg (xq m pack)));have e1:=zR m.an (m.qs.foldl wg (xq m pack));refine⟨_,_,_,_,SJ m.qs _ 0 _ f0 I I,IC m.an _ _ _ f1 I I,IC m.au _ _ _ f2 I I,IC m.ex _ _ _ f3 (Nat.le_refl _) I,(Wd m pack).symm⟩
theorem Ox{m:vU}(h:MOk m)(pack:Bool):Fk m.hd m.qs.length m.an.length m.au.length m.ex.length=((xq m pack).1,0):=by
 obtain⟨h0,U,X,h3,h4,_,_⟩:=h;unfold Fk;rw[if_pos ⟨h0,I,I,I,I⟩];rfl
theorem SK(cs:List Value)(m:vU)(pack:Bool)(Aq Aa Au Ae:Option Addr)(cq ca cu ce:Nat)(w:World)(h:zB w cs m Aq Aa Au Ae cq ca cu ce)(hc:wH m≠0):
  Calls prog 115 #[.agg cs.toArray,.bool pack] w (uI (.tuple #[.string (bs []),.int .i64 (wH m)]) w):=by
 have hl:cs.length=14:=mF;have CK:=Y (fun w' (b:al w w')=>Ml cs m Aq Aa Au Ae cq ca cu ce w' (h.G b));generalize wH m=e at*;have he:(e !=0)=true:=iS;clear hc h;have B0:=F.new w 50 cs;have HB0:Below w.heap.size w (w.alloc (.cells cs.toArray 50)):=gF;go_enter func115,ntmps115;exact qf
theorem xJ.wf{r:RR}(h:xJ w cs r):r.wf:=by obtain⟨_,_,_,_,_,_,_,hr,_⟩:=h;exact hr
theorem Ex{st:WS}{r:RR}(hl:st.1.length<=65535)(hw:r.wf)(hc:uN r=0):(uF st r).1.length<=10000000:=by
 have U:=Je hw hc (zY st r) ((yU st r).length+2);have X:=xk st.2 (st.1.length:Int) r.name;change(yU st r++uA 2 (zp st r).length++zp st r).length<=_;change(zp st r).length<=_ at U;simp only[yU,List.length_append,uy];omega
theorem aag{st:WS}{q:Qn}(hl:st.1.length<=65535):(wg st q).1.length<=10000000:=by
 have X:=xk st.2 (st.1.length:Int) q.name;simp only[wg,List.length_append,uy];omega
theorem P8(cs:List Value)(m:vU)(pack:Bool)(Aq Aa Au Ae:Option Addr)(cq ca cu ce:Nat)(w:World)(h:zB w cs m Aq Aa Au Ae cq ca cu ce)(hc:wH m=0)(hq:m.qs.length<=700)(hr:m.Cq.length<=400):
  Calls prog 115 #[.agg cs.toArray,.bool pack] w (uI (.tuple #[.string (bs (vN m pack).1),.int .i64 (vN m pack).2]) w):=by
 have MK:=PM hc;obtain⟨s1,s2,s3,s4,PL⟩:=ab8 m pack hq hr;have hS:=h.hS;have hl:cs.length=14:=iK;have L10:cs[10]?=some (.slice Aq m.qs.length cq):=bI;have L11:cs[11]?=some (.slice Aa m.an.length ca):=bI;have L12:cs[12]?=some (.slice Au m.au.length cu):=bI;have L13:cs[13]?=some (.slice Ae m.ex.length ce):=bI;have LH:(cs.drop 0).take 10=m.hd.ww:=bI;have LI:=Y (fun w=>Oe m.hd (.slice Aq m.qs.length cq) Aa Au Ae m.an.length m.au.length m.ex.length ca cu ce w);rw[<-hS]at LI;have CK:=Y (fun w' (b:al w w')=>Ml cs m Aq Aa Au Ae cq ca cu ce w' (h.G b));rw[hc]at CK;have HP:Hid (∀w,Calls prog 166 #[.agg m.hd.ww.toArray,.agg #[.int .i64 (m.qs.length:Int),.int .i64 (m.an.length:Int),.int .i64 (m.au.length:Int),.int .i64 (m.ex.length:Int)]] w (uI (.tuple #[.string (bs (xq m pack).1),.int .i64 0]) w)):=Y (fun w=>by
  have:=RX m.hd m.qs.length m.an.length m.au.length m.ex.length w;rw[Ox MK pack]at this;exact this)
 have RL:Hid (65535<s4.1.length->(vN m pack).1=[]/\(vN m pack).2=3):=lh;have RO:Hid (¬65535<s4.1.length->(vN m pack).1=s4.1/\(vN m pack).2=0):=ku;have hq':=h.hq;have ha:=h.ha;have hu:=h.hu;have he:=h.he;have FQ:=Y PL.q;have FA:=Y PL.a;have FU:=Y PL.u;have FE:=Y PL.e;have QC:Hid (∀k (z:k<m.qs.length),uE m.qs[k].name=0):=Y (fun k z=>MK.q _ (List.getElem_mem z));have AC:Hid (∀k (z:k<m.an.length),uN m.an[k]=0):=mx;have UC:Hid (∀k (z:k<m.au.length),uN m.au[k]=0):=mx;have EC:Hid (∀k (z:k<m.ex.length),uN m.ex[k]=0):=mx;have lq:=MK.lq;have la:=MK.la;have lu:=MK.lu;have le:=MK.le;have h12:=Jd m pack;have hT0:(xq m pack).2=if pack then some []else none:=rfl
 clear h hS hc MK PL hq hr;generalize(vN m pack).1=o1 at*;generalize(vN m pack).2=o2 at*;generalize xq m pack=s0 at*;generalize m.hd.ww=HV,m.qs=Q at*;generalize m.an=LA,m.au=LU,m.ex=LE at*;have B0:=F.new w 50 cs;have HB0:Below w.heap.size w (w.alloc (.cells cs.toArray 50)):=gF;go_enter func115,ntmps115;go_wp2_with(refine ur (.load 50 (.tmp 2)) J ?_;go_must(refine uu J _ _ J w.heap.size 0 J B0 14 I _ underlying50 J uW cs (wP I) ?_));go_wp2_with fail;refine(CK.out _ HB0).mono ?_;rintro _ w1 ⟨rfl,b1⟩;have B1:=B0.G b1 B0.lt;have HB1:=um HB0 HB0.size b1;clear B0 HB0 b1 CK;have c10:=B1.M 10 L10;have c11:=B1.M 11 L11;have c12:=B1.M 12 L12;have c13:=B1.M 13 L13;have B1':=B1.alloc (.cells #[.int .i64 (Q.length:Int),.int .i64 (LA.length:Int),.int .i64 (LU.length:Int),.int .i64 (LE.length:Int)] 210);go_wp2_with(refine ur (.load 46 (.tmp 38)) J ?_;go_must(refine uu J _ _ J w.heap.size 0 J B1' 10 I _ underlying46 J CO HV LH ?_));refine(HP.out _).mono ?_;rintro _ w2 ⟨rfl,b2⟩;have B2:=B1'.G b2 B1'.lt;have ty:al w w2:=um (HB1.alloc HB1.size _) (by have:=HB1.size;simp;omega) b2;clear B1' b2 B1 HB1 c10 c11 c12 c13 HP LH;obtain⟨A,c,w3,hr3,o3,b3⟩:=abD w2 s0.1 aK;have HR3:=Y hr3;have H12:=Y h12;clear h12;clear hr3;have ajt:=b3.size;have W4:zK w2.heap.size (w3.alloc (.cells #[.slice A s0.1.length c,.pointer none] 277)) w3.heap.size s0.1 none none:=⟨A,c,ajt,F.new _ _ [.slice A s0.1.length c,.pointer none],o3.G ((Below.refl _ _).alloc (Nat.le_refl _) _),J⟩;have K4:wL w2.heap.size w2 (w3.alloc (.cells #[.slice A s0.1.length c,.pointer none] 277)):=wL.y9 (b3.alloc ajt _) (Nat.le_refl _);go_upto_if 50 with(refine ur (.convert 9 145 (.tmp 47)) rfl ?_;go_must(refine UQ rfl 9 145 (.tmp 47) rfl _ rfl HR3.out ?_));go_cut[] (fun wx=>∃p,zK w2.heap.size wx w3.heap.size s0.1 p s0.2/\wL w2.heap.size w2 wx)
 case first=>
  cases pack with
  |false=>
   have hT1:s0.2=none:=hT0;go_wp2_with fail;go_meet
   case rel=>exact⟨none,by rw[hT1];exact W4,K4⟩
  |true=>
   have hT1:s0.2=some []:=hT0;have HT1:=Y hT1;clear hT1 hT0;go_wp2_with fail;refine(Zg _).mono ?_;rintro _ w5 ⟨g,b,rfl,hT,hB,hg,hbb⟩;have Bw:=(F.new w3 277 [.slice A s0.1.length c,.pointer none]).G hB (F.new w3 277 [.slice A s0.1.length c,.pointer none]).lt;have Ow:Bp w5 w2.heap.size (.slice A s0.1.length c) s0.1:=(o3.G ((Below.refl _ _).alloc (Nat.le_refl _) _)).G hB;have hb3:w2.heap.size<=(w3.alloc (.cells #[.slice A s0.1.length c,.pointer none] 277)).heap.size:=aA;have T5:Ek w2.heap.size w5 (some ⟨g,0,none⟩) (some []):=⟨g,b,J,Nat.le_trans hb3 hg,Nat.le_trans hb3 hbb,hT⟩;have K5:wL w2.heap.size w2 w5:=K4.trans (wL.y9 hB hb3);clear W4 K4 hT hg hbb o3 hB;go_wp2_with(refine ur (.store 275 (.tmp 52) (.tmp 51)) J (af J w3.heap.size 1 _ Bw ap (by kernel_rfl) ?_));intro w6 hb6 hg6 hs6;have W6:zK w2.heap.size w6 w3.heap.size s0.1 (some ⟨g,0,none⟩) (some []):=⟨A,c,ajt,hb6,Ow.kept hg6 (.inr (fun he=>Ow.ne Bw az he.symm)),T5.grown hg6 (by
    intro k z;obtain rfl:=Option.some.inj z;exact⟨_,_,_,Bw,az⟩)⟩
   have K6:wL w2.heap.size w2 w6:=by refine K5.trans ⟨uq (Below.refl _ _) hg6 (K5.size (Nat.le_refl _)) ajt,fun g' t cs' Z n1 n2=>Z.grown hg6 ?_⟩;intro he;obtain rfl:=Option.some.inj he;have hh:w5.heap[w3.heap.size]?=_:=Z;have b1':w5.heap[w3.heap.size]?=_:=Bw;exact tE
   clear Bw Ow T5 K5 hb6 hg6 hs6;go_wp2_with fail;go_meet
   case rel=>exact⟨_,by rw[HT1.out];exact W6,K6⟩
 case rest=>
  obtain⟨p,W5,K5⟩:=hcut;clear W4 K4 o3 HR3 hT0;generalize w3.heap.size=gw at*;have hsl:((Q.take 0).foldl wg s0).1.length<=65535:=by have:=H12.out;simp;omega
  have B5:=K5.2 _ _ _ B2 az az;have c10:=B5.M 10 L10;clear b3 H12;go_wp2_with fail;go_loopw[56] (fun iv wr=>∃k:Nat,k<=Q.length/\iv= .int .i64 k/\((Q.take k).foldl wg s0).1.length<=65535/\zK w2.heap.size wr gw ((Q.take k).foldl wg s0).1 p ((Q.take k).foldl wg s0).2/\wL w2.heap.size w2 wr) (fun iv _=>Q.length-(intOf iv).toNat)
  case atStart=>exact⟨0,Nat.zero_le _,J,hsl,W5,K5⟩
  clear hsl W5 K5 c10 B5;obtain⟨k,z,rfl,hsl,Wr,Kr⟩:=hrel;by_cases aB:k<Q.length
  case pos=>
   have h1:(k:Int)<Q.length:=I;obtain⟨ba,oa,hA,hba,hel⟩:=hq' I;subst hA;obtain⟨An,cn,hrg,hN⟩:=hel k aB;have HBr:al w wr:=jC;have hRk:=uD hrg HBr hba;have uw:=Kr.size (Nat.le_refl _);have ST:=Y (FQ.out.step k aB);have LN:=Y (FQ.out.len (k+1));have FW:=FQ.out.few k;have RC:=Y (fun w' (hW:zK w2.heap.size w' gw ((Q.take k).foldl wg s0).1 p ((Q.take k).foldl wg s0).2) (Z:al w w') (uw:w2.heap.size<=w'.heap.size)=>Np w2.heap.size gw ((Q.take k).foldl wg s0) p An cn Q[k] w w' hW hN ty.size Z uw I (FW.mono I));rw[<-ST.out,QC.out k aB]at RC;unfold qC at hRk RC;clear hel hrg hN FW;obtain⟨sn,hsn⟩:∃sn,sn=(Q.take (k+1)).foldl wg s0:=gG;rw[<-hsn]at RC ST LN;have HSN:=Y hsn.symm;have akQ:sn.1.length<=10000000:=by rw[ST.out];exact aag hsl
   clear hsn;generalize(Q.take k).foldl wg s0=st at*;clear ST;generalize(Q[k]'aB).name.length=nl at*;generalize(Q[k]'aB).O=O at*;generalize(Q[k]'aB).N=N at*;go_wp2_with(refine ur (.load 28 (.tmp 58)) J ?_;go_must(refine wj J 28 (.tmp 58) J ba (oa+k*3) J [.slice An nl cn,.int .i64 O,.int .i64 N] hRk _ underlying28 J xu ?_));have bo:Below wr.heap.size wr (wr.alloc (.cells #[.slice An nl cn,.int .i64 O,.int .i64 N] 28)):=gF;refine(RC.out _ (Wr.G bo) (um HBr HBr.size bo) (Nat.le_trans uw bo.size)).mono ?_;rintro _ w5 ⟨rfl,W5,K5⟩;have K5':=(Kr.trans (wL.y9 bo uw)).trans K5;clear RC K5 bo uw Wr Kr HBr hRk;have RM:=Y (Sj w2.heap.size gw sn.1 p sn.2 0 w5 W5 akQ);by_cases h5:65535<sn.1.length
   ·obtain⟨rfl,rfl⟩:=RL.out (Nat.lt_of_lt_of_le h5 LN.out);rw[if_pos ⟨J,h5⟩]at RM;go_wp2_with fail;refine RM.out.mono ?_;rintro _ w6 ⟨rfl,rfl⟩;clear RM h5 LN;go_wp2_with fail;go_ret2;exact uI.mk J (ty.trans (K5'.1.mono ty.size))
   ·
    rw[if_neg (fun h=>h5 h.2)]at RM;go_wp2_with fail;refine RM.out.mono ?_;rintro _ w6 ⟨rfl,rfl⟩;clear RM LN;go_wp2_with fail;go_roundw
    case rel=>exact⟨k+1,I,gp,by rw[HSN.out];omega,by rw[HSN.out];exact W5,K5'⟩
    case measure=>simp[intOf];omega
  obtain rfl:k=Q.length:=I;have h1:¬(Q.length:Int)<Q.length:=I;rw[FQ.out.done]at hsl Wr;have Br:=Kr.2 _ _ _ B2 az az;clear aB z FQ hq' QC L10;go_wp2_with(refine ur (.load 50 (.tmp 2)) J ?_;go_must(refine uu J _ _ J w.heap.size 0 J Br 14 I _ underlying50 J uW cs (wP I) ?_));refine(LI.out _).mono ?_;rintro _ wa ⟨rfl,ba⟩;replace Wr:=Wr.G ba;replace Kr:=Kr.trans (wL.y9 ba (Kr.size (Nat.le_refl _)));clear Br ba LI;have I0:∀w:World,(Instr.index 281 (.agg #[.slice Aa LA.length ca,.slice Au LU.length cu,.slice Ae LE.length ce]) (.int .i64 0)).run prog w= .ok (.slice Aa LA.length ca) w:=fun _=>by kernel_rfl
  have I1:∀w:World,(Instr.index 281 (.agg #[.slice Aa LA.length ca,.slice Au LU.length cu,.slice Ae LE.length ce]) (.int .i64 1)).run prog w= .ok (.slice Au LU.length cu) w:=fun _=>by kernel_rfl
  have I2:∀w:World,(Instr.index 281 (.agg #[.slice Aa LA.length ca,.slice Au LU.length cu,.slice Ae LE.length ce]) (.int .i64 2)).run prog w= .ok (.slice Ae LE.length ce) w:=fun _=>by kernel_rfl
  go_wp2_with fail;refine wp_loop_rounds 4 ?_;rw[rounds_succ];go_wp2_with fail;go_loopw[74] (fun iv wr=>∃k:Nat,k<=LA.length/\iv= .int .i64 k/\((LA.take k).foldl uF s1).1.length<=65535/\zK w2.heap.size wr gw ((LA.take k).foldl uF s1).1 p ((LA.take k).foldl uF s1).2/\wL w2.heap.size w2 wr) (fun iv _=>LA.length-(intOf iv).toNat)
  case atStart=>exact⟨0,Nat.zero_le _,J,hsl,Wr,Kr⟩
  clear hsl Wr Kr;obtain⟨k,z,rfl,hsl,Wr,Kr⟩:=hrel;by_cases aB:k<LA.length
  case pos=>
   have h1:(k:Int)<LA.length:=I;obtain⟨ba,oa,hA,hba,hel⟩:=ha I;subst hA;obtain⟨ck,hrg,hRR⟩:=hel k aB;have HBr:al w wr:=jC;have hRk:=uD hrg HBr hba;have ckl:=hRR.len;have hwf:=hRR.wf;have ck1:=Y hRR.one;have uw:=Kr.size (Nat.le_refl _);have ST:=Y ((FA).out.step k aB);have LN:=Y ((FA).out.len (k+1));have FW:=(FA).out.few k;have RC:=Y (fun w' (hW:zK w2.heap.size w' gw ((LA.take k).foldl uF s1).1 p ((LA.take k).foldl uF s1).2) (Z:al w w') (uw:w2.heap.size<=w'.heap.size)=>Fl w2.heap.size gw ((LA.take k).foldl uF s1) p ck LA[k] w w' hW hRR ty.size Z uw I (FW.mono I) ((AC).out k aB));rw[<-ST.out]at RC;clear hel hrg hRR FW;obtain⟨sn,hsn⟩:∃sn,sn=(LA.take (k+1)).foldl uF s1:=gG;rw[<-hsn]at RC ST LN;have HSN:=Y hsn.symm;have akQ:sn.1.length<=10000000:=by rw[ST.out];exact Ex hsl hwf ((AC).out k aB)
   clear hsn;generalize(LA.take k).foldl uF s1=st at*;exact oY
  obtain rfl:k=LA.length:=I;have h1:¬(LA.length:Int)<LA.length:=I;rw[(FA).out.done]at hsl Wr;clear aB z FA ha AC;go_wp2_with fail;rw[rounds_succ];go_wp2_with fail;go_loopw[74] (fun iv wr=>∃k:Nat,k<=LU.length/\iv= .int .i64 k/\((LU.take k).foldl uF s2).1.length<=65535/\zK w2.heap.size wr gw ((LU.take k).foldl uF s2).1 p ((LU.take k).foldl uF s2).2/\wL w2.heap.size w2 wr) (fun iv _=>LU.length-(intOf iv).toNat)
  case atStart=>exact⟨0,Nat.zero_le _,J,hsl,Wr,Kr⟩
  clear hsl Wr Kr;obtain⟨k,z,rfl,hsl,Wr,Kr⟩:=hrel;by_cases aB:k<LU.length
  case pos=>
   have h1:(k:Int)<LU.length:=I;obtain⟨ba,oa,hA,hba,hel⟩:=hu I;subst hA;obtain⟨ck,hrg,hRR⟩:=hel k aB;have HBr:al w wr:=jC;have hRk:=uD hrg HBr hba;have ckl:=hRR.len;have hwf:=hRR.wf;have ck1:=Y hRR.one;have uw:=Kr.size (Nat.le_refl _);have ST:=Y ((FU).out.step k aB);have LN:=Y ((FU).out.len (k+1));have FW:=(FU).out.few k;have RC:=Y (fun w' (hW:zK w2.heap.size w' gw ((LU.take k).foldl uF s2).1 p ((LU.take k).foldl uF s2).2) (Z:al w w') (uw:w2.heap.size<=w'.heap.size)=>Fl w2.heap.size gw ((LU.take k).foldl uF s2) p ck LU[k] w w' hW hRR ty.size Z uw I (FW.mono I) ((UC).out k aB));rw[<-ST.out]at RC;clear hel hrg hRR FW;obtain⟨sn,hsn⟩:∃sn,sn=(LU.take (k+1)).foldl uF s2:=gG;rw[<-hsn]at RC ST LN;have HSN:=Y hsn.symm;have akQ:sn.1.length<=10000000:=by rw[ST.out];exact Ex hsl hwf ((UC).out k aB)
   clear hsn;generalize(LU.take k).foldl uF s2=st at*;exact oY
  obtain rfl:k=LU.length:=I;have h1:¬(LU.length:Int)<LU.length:=I;rw[(FU).out.done]at hsl Wr;clear aB z FU hu UC;go_wp2_with fail;rw[rounds_succ];go_wp2_with fail;go_loopw[74] (fun iv wr=>∃k:Nat,k<=LE.length/\iv= .int .i64 k/\((LE.take k).foldl uF s3).1.length<=65535/\zK w2.heap.size wr gw ((LE.take k).foldl uF s3).1 p ((LE.take k).foldl uF s3).2/\wL w2.heap.size w2 wr) (fun iv _=>LE.length-(intOf iv).toNat)
  case atStart=>exact⟨0,Nat.zero_le _,J,hsl,Wr,Kr⟩
  clear hsl Wr Kr;obtain⟨k,z,rfl,hsl,Wr,Kr⟩:=hrel;by_cases aB:k<LE.length
  case pos=>
   have h1:(k:Int)<LE.length:=I;obtain⟨ba,oa,hA,hba,hel⟩:=he I;subst hA;obtain⟨ck,hrg,hRR⟩:=hel k aB;have HBr:al w wr:=jC;have hRk:=uD hrg HBr hba;have ckl:=hRR.len;have hwf:=hRR.wf;have ck1:=Y hRR.one;have uw:=Kr.size (Nat.le_refl _);have ST:=Y ((FE).out.step k aB);have LN:=Y ((FE).out.len (k+1));have FW:=(FE).out.few k;have RC:=Y (fun w' (hW:zK w2.heap.size w' gw ((LE.take k).foldl uF s3).1 p ((LE.take k).foldl uF s3).2) (Z:al w w') (uw:w2.heap.size<=w'.heap.size)=>Fl w2.heap.size gw ((LE.take k).foldl uF s3) p ck LE[k] w w' hW hRR ty.size Z uw I (FW.mono I) ((EC).out k aB));rw[<-ST.out]at RC;clear hel hrg hRR FW;obtain⟨sn,hsn⟩:∃sn,sn=(LE.take (k+1)).foldl uF s3:=gG;rw[<-hsn]at RC ST LN;have HSN:=Y hsn.symm;have akQ:sn.1.length<=10000000:=by rw[ST.out];exact Ex hsl hwf ((EC).out k aB)
   clear hsn;generalize(LE.take k).foldl uF s3=st at*;exact oY
  obtain rfl:k=LE.length:=I;have h1:¬(LE.length:Int)<LE.length:=I;rw[(FE).out.done]at hsl Wr;clear aB z FE he EC;go_wp2_with fail;rw[rounds_succ];obtain⟨rfl,rfl⟩:=RO.out I;clear RO RL I0 I1 I2;obtain⟨A',c',U,X,h3,h4⟩:=Wr;have c0:=X.M 0 J;have CV:=h3.str;go_wp2_with fail;go_ret2;exact uI.mk J (ty.trans (Kr.1.mono ty.size))
theorem U0(m:vU):wH m=if m.hd.ok=false then 4
  else if 65535<m.qs.length\/65535<m.an.length\/65535<m.au.length\/65535<m.ex.length then 3
  else if yk (m.qs.map qE)≠0 then yk (m.qs.map qE)
  else yk (m.Cq.map uN):=rfl
theorem Hc(cs:List Value)(m:vU)(Aq Aa Au Ae:Option Addr)(cq ca cu ce:Nat)(w:World)(h:zB w cs m Aq Aa Au Ae cq ca cu ce):
  Calls prog 110 #[.agg cs.toArray] w (uI (.int .i64 (wH m)) w):=by
 have hS:=h.hS;have hl:cs.length=14:=iK;have L10:cs[10]?=some (.slice Aq m.qs.length cq):=bI;have L11:cs[11]?=some (.slice Aa m.an.length ca):=bI;have L12:cs[12]?=some (.slice Au m.au.length cu):=bI;have L13:cs[13]?=some (.slice Ae m.ex.length ce):=bI;have LH:(cs.drop 0).take 10=m.hd.ww:=bI;have LI:=Y (fun w' (b:al w w')=>Wg cs m Aq Aa Au Ae cq ca cu ce w w' h b);have CH:Hid (∀w,Calls prog 158 #[.agg m.hd.ww.toArray] w (uI (.int .i64 (if m.hd.ok then 0 else 4)) w)):=Y (fun w=>En m.hd w);have lq:=h.lq;have la:=h.la;have lu:=h.lu;have le:=h.le;have hq:=h.hq;have HE:=Y (U0 m);have FQ:=Y (FZ qE m.qs);have FQ':=Y (DR qE m.qs);have FA:=Y (FZ uN m.Cq);have FA':=Y (DR uN m.Cq);have hlen:m.Cq.length=m.an.length+m.au.length+m.ex.length:=lU;clear h hS;generalize wH m=res at*;generalize yk (m.qs.map qE)=fq at*;generalize yk (m.Cq.map uN)=fa at*;generalize m.hd.ww=HV,m.hd.ok=ok at*;generalize m.qs=Q,m.Cq=R at*;generalize m.an.length=na,m.au.length=nu,m.ex.length=ne at*;have B0:=F.new w 50 cs;have HB0:Below w.heap.size w (w.alloc (.cells cs.toArray 50)):=gF;go_enter func110,ntmps110;go_wp2_with(refine ur (.load 46 (.tmp 10)) J ?_;go_must(refine uu J _ _ J w.heap.size 0 J B0 10 I _ underlying46 J CO HV LH ?_));go_wp2_with fail;refine(CH.out _).mono ?_;rintro _ w2 ⟨rfl,b1⟩;have B2:=B0.G b1 B0.lt;have ty:=um HB0 HB0.size b1;clear B0 HB0 b1 CH;cases ok with
 |false=>have hr0:=HE.out.trans (if_pos J);subst hr0;clear HE;exact qB
 |true=>
 have HE1:=Y (HE.out.trans (if_neg ap));clear HE;have c10:=B2.M 10 L10;have c11:=B2.M 11 L11;have c12:=B2.M 12 L12;have c13:=B2.M 13 L13;by_cases U:65535<Q.length
 case pos=>have h1':(65535:Int)<Q.length:=I;have hr0:=HE1.out.trans (if_pos (.inl U));subst hr0;clear HE1 U hlen;exact qB
 have h1':¬(65535:Int)<Q.length:=I;by_cases X:65535<na
 case pos=>have h2':(65535:Int)<na:=I;have hr0:=HE1.out.trans (if_pos (.inr (.inl X)));subst hr0;clear HE1 X U hlen;exact qB
 have h2':¬(65535:Int)<na:=I;by_cases h3:65535<nu
 case pos=>have h3':(65535:Int)<nu:=I;have hr0:=HE1.out.trans (if_pos (.inr (.inr (.inl h3))));subst hr0;clear HE1 h3 X U hlen;exact qB
 have h3':¬(65535:Int)<nu:=I;by_cases h4:65535<ne
 case pos=>have h4':(65535:Int)<ne:=I;have hr0:=HE1.out.trans (if_pos (.inr (.inr (.inr h4))));subst hr0;clear HE1 h4 h3 X U hlen;exact qB
 have h4':¬(65535:Int)<ne:=I;have HE2:=Y (HE1.out.trans (if_neg I));have AL:=Y (fun w' b=>LI.out w' b I I I);clear HE1 LI L11 L12 L13;go_wp2_with fail;clear U X h3 h4 c11 c12 c13;go_loopw[4] (fun iv wr=>∃k:Nat,k<=Q.length/\iv= .int .i64 k/\Hid (∀j (hj:j<Q.length),j<k->qE Q[j]=0)/\al w2 wr) (fun iv _=>Q.length-(intOf iv).toNat)
 case atStart=>exact⟨0,Nat.zero_le _,J,Y (fun j hj h=>by omega),Below.refl _ _⟩
 clear c10;obtain⟨k,z,rfl,HJ,Z⟩:=hrel;have HBr:=um ty (wI ty (Nat.le_refl _)) Z;have Br:=B2.G Z B2.lt;have c10:=Br.M 10 L10;by_cases aB:k<Q.length
 case pos=>
  have h1:(k:Int)<Q.length:=I;obtain⟨ba,oa,hA,hba,hel⟩:=hq I;subst hA;obtain⟨An,cn,hrg,hN⟩:=hel k aB;have hRk:=uD hrg HBr hba;unfold qC at hRk;have CK:=Y (fun w' (b:al w w')=>vD An cn Q[k].name w' (hN.G b).1 bB);have W1:=Y (fun w=>Iu Q[k].O w);have W2:=Y (fun w=>Iu Q[k].N w);have FK:=Y (FQ'.out k aB HJ.out);have HJ2:=Y (fun(hz:qE Q[k]=0) j (hj:j<Q.length) (hjk:j<k+1)=>(by by_cases e:j=k;(subst e;exact hz);exact HJ.out j hj I:qE Q[j]=0));have HQ:Hid (qE Q[k]=_):=Y (by unfold qE;rfl);clear hel hrg hN HJ;generalize qE (Q[k]'aB)=qe at*;generalize uE (Q[k]'aB).name=e0 at*;generalize(Q[k]'aB).name.length=nl at*;generalize yo 65535 (Q[k]'aB).O=i1 at*;generalize yo 65535 (Q[k]'aB).N=i2 at*;generalize(Q[k]'aB).O=O at*;generalize(Q[k]'aB).N=N at*;go_wp2_with(refine ur (.load 28 (.tmp 48)) J ?_;go_must(refine wj J 28 (.tmp 48) J ba (oa+k*3) J [.slice An nl cn,.int .i64 O,.int .i64 N] hRk _ underlying28 J xu ?_));have HBn:=HBr.alloc HBr.size (.cells #[.slice An nl cn,.int .i64 O,.int .i64 N] 28);have hbn:=Z.alloc Z.size (.cells #[.slice An nl cn,.int .i64 O,.int .i64 N] 28);refine(CK.out _ HBn).mono ?_;rintro _ w4 ⟨rfl,rfl⟩;clear CK hRk HBr Z c10 Br;by_cases he0:e0=0
  case neg=>exact qN
  subst he0;replace HQ:=Y (HQ.out.trans (if_neg ap));go_wp2_with fail;refine(W1.out _).mono ?_;rintro _ w4 ⟨rfl,rfl⟩;clear W1;cases i1 with
  |false=>exact pI
  |true=>
  go_wp2_with fail;refine(W2.out _).mono ?_;rintro _ w4 ⟨rfl,rfl⟩;clear W2;cases i2 with
  |false=>exact pI
  |true=>exact rC
 obtain rfl:k=Q.length:=I;have hf0:=FQ.out (fun j hj=>HJ.out j hj hj);subst hf0;have HEX:=Y (HE2.out.trans (if_neg ap));have h1:¬(Q.length:Int)<Q.length:=I;clear HJ aB FQ FQ' HE2 Z B2 ty hq z;go_wp2_with(refine ur (.load 50 (.tmp 1)) J ?_;go_must(refine uu J _ _ J w.heap.size 0 J Br 14 I _ underlying50 J uW cs (wP I) ?_));refine(AL.out _ HBr).mono ?_;rintro _ w3 ⟨A,c,rfl,ajA,b3⟩;have HB3:=um HBr HBr.size b3;clear Br c10 AL HBr b3;have hRl:R.length<=196605:=I;clear hlen;go_wp2_with fail;go_loopw[8] (fun iv wr=>∃k:Nat,k<=R.length/\iv= .int .i64 k/\Hid (∀j (hj:j<R.length),j<k->uN R[j]=0)/\al w3 wr) (fun iv _=>R.length-(intOf iv).toNat)
 case atStart=>exact⟨0,Nat.zero_le _,J,Y (fun j hj h=>by omega),Below.refl _ _⟩
 obtain⟨k,z,rfl,HJ,Z⟩:=hrel;have HBr:=um HB3 (wI HB3 (Nat.le_refl _)) Z;by_cases aB:k<R.length
 case pos=>
  have h1:(k:Int)<R.length:=I;obtain⟨g,cur,hA,hB,hcl,hel⟩:=ajA I;subst hA;obtain⟨ck,hrg,hRR⟩:=hel k aB;have CK:=Y (fun w' (b:al w w')=>yf ck R[k] w' (hRR.G b));have FK:=Y (FA'.out k aB HJ.out);have HJ2:=Y (fun(hz:uN R[k]=0) j (hj:j<R.length) (hjk:j<k+1)=>(by by_cases e:j=k;(subst e;exact hz);exact HJ.out j hj I:uN R[j]=0));have Bk:=hB.G Z hB.lt;have apA:k*33+33<=cur.length:=I;clear hel hRR HJ;generalize uN (R[k]'aB)=ek at*;go_wp2_with(refine ur (.load 119 (.tmp 74)) J ?_;go_must(refine uu J _ _ J g (k*33) dx Bk 33 apA _ underlying119 J uU ck hrg ?_));refine(CK.out _ HBr).mono ?_;rintro _ w4 ⟨rfl,b4⟩;have HB4:=um HBr HBr.size b4;have hb4:=um Z Z.size b4;clear CK b4 HBr Z Bk;by_cases he0:ek=0
  ·
   subst he0;go_wp2_with fail;go_roundw
   case rel=>exact⟨k+1,I,gp,Y (HJ2.out trivial),hb4⟩
   case measure=>simp[intOf];omega
  ·have e1:(ek !=0)=true:=iM;have e2:=FK.out he0;subst e2;have hr0:=HEX.out;subst hr0;clear HEX FK HJ2 he0;exact rh
 obtain rfl:k=R.length:=I;have hf0:=FA.out (fun j hj=>HJ.out j hj hj);subst hf0;obtain rfl:=HEX.out;have h1:¬(R.length:Int)<R.length:=I;clear HJ aB z HEX;exact sA
structure ae9 (m:vU) (pack:Bool) (s1 s4:WS):Prop where
 q:Fold wg m.qs (xq m pack) s1 s4.1.length
 r:Fold uF m.Cq s1 s4 s4.1.length
 eq:s4=Eo m pack
theorem aah(m:vU)(pack:Bool)(hq:m.qs.length<=100)(hr:m.Cq.length<=200):∃s1 s4,ae9 m pack s1 s4:=by
 have f0:=Of m pack;have f1:=Gf m.qs _ _ f0;have e1:=zR m.Cq (m.qs.foldl wg (xq m pack));exact⟨_,_,SJ m.qs _ 0 _ f0 I I,IC m.Cq _ _ _ f1 (Nat.le_refl _) I,J⟩
theorem XT(l:List Qn):∀st:WS,(l.foldl wg st).1.length<=st.1.length+304*l.length:=by
 induction l with
 |nil=>intro st;simp
 |cons q l ih=>
  intro st;have:=ih (wg st q);have X:=xk st.2 (st.1.length:Int) q.name;have h3:(wg st q).1.length<=st.1.length+304:=by simp only[wg,List.length_append,uy];omega
  simp only[List.foldl_cons,List.length_cons];omega
theorem vV.ad6(h:vV lo w w')(Z:F w g 50 cs):F w' g 50 cs:=h.2 g _ cs Z az az
theorem vV.abX(h:vV lo w w')(Z:F w g 28 cs):F w' g 28 cs:=h.2 g _ cs Z az az
theorem vV.size{w1:World}(h:vV lo w w1)(uw:lo<=w.heap.size):lo<=w1.heap.size:=wI h.1 uw
theorem Gn{w0:World}{A:Option Addr}{l:List RR}(h:ZO w0 w A l)(z:vV lo w w'):ZO w0 w' A l:=by
 intro hp;obtain⟨g,cur,U,X,h3,h4⟩:=h hp;exact⟨g,cur,U,z.vj X,h3,h4⟩
theorem Mm(cs:List Value)(m:vU)(pack:Bool)(Aq Aa Au Ae:Option Addr)(cq ca cu ce:Nat)(w:World)(h:zB w cs m Aq Aa Au Ae cq ca cu ce)(hc:wH m≠0):
  Calls prog 72 #[.agg cs.toArray,.bool pack] w (uI (.tuple #[.string (bs []),.int .i64 (wH m)]) w):=by
 have hl:cs.length=14:=mF;have CK:=Y (fun w' (b:al w w')=>Hc cs m Aq Aa Au Ae cq ca cu ce w' (h.G b));generalize wH m=e at*;have he:(e !=0)=true:=iS;clear hc h;have B0:=F.new w 50 cs;have HB0:Below w.heap.size w (w.alloc (.cells cs.toArray 50)):=gF;go_enter func72,ntmps72;exact qf
theorem Kv(cs:List Value)(m:vU)(pack:Bool)(Aq Aa Au Ae:Option Addr)(cq ca cu ce:Nat)(w:World)(h:zB w cs m Aq Aa Au Ae cq ca cu ce)(hc:wH m=0)(hq:m.qs.length<=100)(hr:m.Cq.length<=200):
  Calls prog 72 #[.agg cs.toArray,.bool pack] w (uI (.tuple #[.string (bs (vN m pack).1),.int .i64 (vN m pack).2]) w):=by
 have MK:=PM hc;obtain⟨s1,s4,PL⟩:=aah m pack hq hr;have hS:=h.hS;have hl:cs.length=14:=iK;have L10:cs[10]?=some (.slice Aq m.qs.length cq):=bI;have L11:cs[11]?=some (.slice Aa m.an.length ca):=bI;have L12:cs[12]?=some (.slice Au m.au.length cu):=bI;have L13:cs[13]?=some (.slice Ae m.ex.length ce):=bI;have LH:(cs.drop 0).take 10=m.hd.ww:=bI;have AL:=Y (fun w' (b:al w w')=>Wg cs m Aq Aa Au Ae cq ca cu ce w w' h b MK.la MK.lu MK.le);have CK:=Y (fun w' (b:al w w')=>Hc cs m Aq Aa Au Ae cq ca cu ce w' (h.G b));rw[hc]at CK;have HP:Hid (∀w,Calls prog 111 #[.agg m.hd.ww.toArray,.agg #[.int .i64 (m.qs.length:Int),.int .i64 (m.an.length:Int),.int .i64 (m.au.length:Int),.int .i64 (m.ex.length:Int)]] w (uI (.tuple #[.string (bs (xq m pack).1),.int .i64 0]) w)):=Y (fun w=>by
  have:=LF m.hd m.qs.length m.an.length m.au.length m.ex.length w;rw[Ox MK pack]at this;exact this)
 have RL:Hid (65535<s4.1.length->(vN m pack).1=[]/\(vN m pack).2=3):=lh;have RO:Hid (¬65535<s4.1.length->(vN m pack).1=s4.1/\(vN m pack).2=0):=ku;have hq':=h.hq;have FQ:=Y PL.q;have FR:=Y PL.r;have RC:Hid (∀k (z:k<m.Cq.length),uN m.Cq[k]=0):=Y (fun k z=>MK.r _ (List.getElem_mem z));have h12:=Jd m pack;have QM:Hid (∀k,((m.qs.take k).foldl wg (xq m pack)).1.length<=50000):=Y (fun k=>by
  have:=XT (m.qs.take k) (xq m pack);have X:(m.qs.take k).length<=100:=dh;omega)
 have hT0:(xq m pack).2=if pack then some []else none:=rfl
 clear h hS hc MK PL;generalize(vN m pack).1=o1 at*;generalize(vN m pack).2=o2 at*;generalize xq m pack=s0 at*;generalize m.hd.ww=HV,m.Cq=R at*;generalize m.qs=Q,m.an.length=na at*;generalize m.au.length=nu,m.ex.length=ne at*;have B0:=F.new w 50 cs;have HB0:Below w.heap.size w (w.alloc (.cells cs.toArray 50)):=gF;go_enter func72,ntmps72;go_wp2_with(refine ur (.load 50 (.tmp 2)) J ?_;go_must(refine uu J _ _ J w.heap.size 0 J B0 14 I _ underlying50 J uW cs (wP I) ?_));go_wp2_with fail;refine(CK.out _ HB0).mono ?_;rintro _ w1 ⟨rfl,b1⟩;have B1:=B0.G b1 B0.lt;have HB1:=um HB0 HB0.size b1;clear B0 HB0 b1 CK;go_upto_if 25 with fail;go_cut[7] (fun v wx=>∃p,v= .pointer p/\DZ w1.heap.size wx p s0.2/\vV w1.heap.size w1 wx)
 case first=>
  cases pack with
  |false=>
   have hT1:s0.2=none:=hT0;go_wp2_with fail;go_meet
   case rel=>exact⟨none,J,by rw[hT1];rfl,vV.refl _ _⟩
  |true=>
   have hT1:s0.2=some []:=hT0;have HT1:=Y hT1;clear hT1 hT0;go_wp2_with fail;go_meet
   case rel=>exact⟨_,J,by rw[HT1.out];exact⟨_,J,Nat.le_refl _,GM.new w1 _ J⟩,vV.y9 ((Below.refl _ _).alloc (Nat.le_refl _) _) (Nat.le_refl _)⟩
 case rest=>
  obtain⟨p,rfl,T2,K2⟩:=hcut;clear hT0;generalize wc=w2 at*;have B2:=K2.ad6 B1;have c10:=B2.M 10 L10;have c11:=B2.M 11 L11;have c12:=B2.M 12 L12;have c13:=B2.M 13 L13;have ag4:=K2.size (Nat.le_refl _);go_wp2_with(refine ur (.load 46 (.tmp 29)) J ?_;go_must(refine uu J _ _ J w.heap.size 0 J B2 10 I _ underlying46 J CO HV LH ?_));refine(HP.out _).mono ?_;rintro _ w3 ⟨rfl,b3⟩;have T3:=T2.G ag4 b3;have K3:=K2.trans (vV.y9 b3 ag4);have B3:=K3.ad6 B1;clear c10 c11 c12 c13 HP LH B2 T2 K2 b3 ag4 L11 L12 L13;have c10:=B3.M 10 L10;go_wp2_with fail;go_loopw[8,10] (fun sv iv wr=>∃k:Nat,k<=Q.length/\iv= .int .i64 k/\sv= .string (bs ((Q.take k).foldl wg s0).1)/\DZ w1.heap.size wr p ((Q.take k).foldl wg s0).2/\vV w1.heap.size w1 wr) (fun _ iv _=>Q.length-(intOf iv).toNat)
  case atStart=>exact⟨0,Nat.zero_le _,J,J,T3,K3⟩
  clear c10 T3 K3 B3;obtain⟨k,z,rfl,rfl,Tr,Kr⟩:=hrel;have Br:=Kr.ad6 B1;have c10:=Br.M 10 L10;have HBr:al w wr:=HB1.trans (Kr.1.mono HB1.size);have uw:=Kr.size (Nat.le_refl _);by_cases aB:k<Q.length
  case pos=>
   have h1:(k:Int)<Q.length:=I;obtain⟨ba,oa,hA,hba,hel⟩:=hq' I;subst hA;obtain⟨An,cn,hrg,hN⟩:=hel k aB;have hRk:=uD hrg HBr hba;have ST:=Y (FQ.out.step k aB);have FW:=FQ.out.few k;have PT:=Y (fun w' (b:al wr w')=>BD w1.heap.size p ((Q.take k).foldl wg s0).2 An cn Q[k].name (((Q.take k).foldl wg s0).1.length:Int) w w' HB1.size (um HBr HBr.size b) (Nat.le_trans uw b.size) (Tr.G uw b) hN (FW.mono I));have xm:=QM.out k;have xl:=xk ((Q.take k).foldl wg s0).2 (((Q.take k).foldl wg s0).1.length:Int) Q[k].name;have P1:=Y (fun w=>yJ Q[k].O w);have P2:=Y (fun w=>yJ Q[k].N w);have l1:=uy 2 Q[k].O;have l2:=uy 2 Q[k].N;unfold qC at hRk;have S1:Hid (((Q.take (k+1)).foldl wg s0).1=((Q.take k).foldl wg s0).1++vh ((Q.take k).foldl wg s0).2 (((Q.take k).foldl wg s0).1.length:Int) Q[k].name++uA 2 Q[k].O++uA 2 Q[k].N):=Y (congrArg Prod.fst ST.out);have S2:Hid (((Q.take (k+1)).foldl wg s0).2=vL ((Q.take k).foldl wg s0).2 (((Q.take k).foldl wg s0).1.length:Int) Q[k].name):=Y (congrArg Prod.snd ST.out);clear hel hrg hN FW ST;generalize vL ((Q.take k).foldl wg s0).2 (((Q.take k).foldl wg s0).1.length:Int) (Q[k]'aB).name=T' at*;generalize vh ((Q.take k).foldl wg s0).2 (((Q.take k).foldl wg s0).1.length:Int) (Q[k]'aB).name=x at*;obtain⟨s,hs⟩:∃s,s=((Q.take k).foldl wg s0).1:=gG;rw[<-hs]at PT xm S1⊢;clear hs;generalize uA 2 (Q[k]'aB).O=y1 at*;generalize uA 2 (Q[k]'aB).N=y2 at*;generalize uE (Q[k]'aB).name=e at*;generalize(Q[k]'aB).name.length=nl at*;generalize(Q[k]'aB).O=O at*;generalize(Q[k]'aB).N=N at*;go_wp2_with(refine ur (.load 28 (.tmp 57)) J ?_;go_must(refine wj J 28 (.tmp 57) J ba (oa+k*3) J [.slice An nl cn,.int .i64 O,.int .i64 N] hRk _ underlying28 J xu ?_));have bo:Below wr.heap.size wr (wr.alloc (.cells #[.slice An nl cn,.int .i64 O,.int .i64 N] 28)):=gF;have Bq:=F.new wr 28 [.slice An nl cn,.int .i64 O,.int .i64 N];refine(PT.out _ bo).mono ?_;rintro _ w4 ⟨rfl,T4,K4⟩;have Bq4:=K4.abX Bq;have K4':=(Kr.trans (vV.y9 bo uw)).trans K4;have agv:=K4'.size (Nat.le_refl _);clear PT K4 bo uw Tr Kr HBr hRk Bq c10 Br;go_wp2_with fail;refine wY (by kernel_rfl) (by kernel_rfl) ?_
   (refine ux (v:=(.string (bs s))) J (fun W hW=>by first|(go_simp;done)|(go_simp;omega)) ?_;simp only[E])
   (refine ux (v:=(.string (bs x))) J (fun W hW=>by first|(go_simp;done)|(go_simp;omega)) ?_;simp only[E])
   (refine ux (v:=(.string (bs (s++x)))) J (fun W hW=>by first|(go_simp;done)|(go_simp;omega)) ?_;simp only[E])
   (refine ux (v:=(.pointer (some ⟨wr.heap.size,1,none⟩))) J (fun W hW=>by first|(go_simp;done)|(go_simp;omega)) ?_;simp only[E])
   refine vr 3 (.tmp 71) J ⟨wr.heap.size,1,none⟩ J J (fun W hW=>uB underlying3 J ((Bq4.G hW Bq4.lt).M 1 J)) ?_;simp only[E];refine vy 84 #[.int .i64 2,.int .i64 O] J (fun W=>by go_simp) (fun W hW=>uI.y9 hW (P1.out W)) ?_;simp only[E]
   (refine ux (v:=(.string (bs (s++x++y1)))) J (fun W hW=>by first|(go_simp;done)|(go_simp;omega)) ?_;simp only[E])
   (refine ux (v:=(.pointer (some ⟨wr.heap.size,2,none⟩))) J (fun W hW=>by first|(go_simp;done)|(go_simp;omega)) ?_;simp only[E])
   refine vr 3 (.tmp 75) J ⟨wr.heap.size,2,none⟩ J J (fun W hW=>uB underlying3 J ((Bq4.G hW Bq4.lt).M 2 J)) ?_;simp only[E];refine vy 84 #[.int .i64 2,.int .i64 N] J (fun W=>by go_simp) (fun W hW=>uI.y9 hW (P2.out W)) ?_;simp only[E]
   (refine ux (v:=(.string (bs (s++x++y1++y2)))) J (fun W hW=>by first|(go_simp;done)|(go_simp;omega)) ?_;simp only[E])
   (refine ux (v:=(.string (bs (s++x++y1++y2)))) J (fun W hW=>by first|(go_simp;done)|(go_simp;omega)) ?_;simp only[E])
   refine wpQuiet_nil ?_;intro w5 b5;have T5:=T4.G agv b5;have K5:=K4'.trans (vV.y9 b5 agv);clear T4 K4' b5 Bq4 P1 P2;go_wp2_with fail;go_roundw
   case rel=>exact⟨k+1,I,gp,by rw[S1.out],by rw[S2.out];exact T5,K5⟩
   case measure=>simp[intOf];omega
  obtain rfl:k=Q.length:=I;have h1:¬(Q.length:Int)<Q.length:=I;have xm:=QM.out Q.length;rw[FQ.out.done]at Tr xm⊢;clear aB z FQ hq' QM L10 h12;go_wp2_with(refine ur (.load 50 (.tmp 2)) J ?_;go_must(refine uu J _ _ J w.heap.size 0 J Br 14 I _ underlying50 J uW cs (wP I) ?_));refine(AL.out _ HBr).mono ?_;rintro _ wa ⟨A,c,rfl,ajA,ba⟩;replace Tr:=Tr.G uw ba;replace Kr:=Kr.trans (vV.y9 ba uw);clear Br ba AL c10 HBr uw;clear B1;go_wp2_with fail;go_loopw[8,15] (fun sv iv wr=>∃k:Nat,k<=R.length/\iv= .int .i64 k/\sv= .string (bs ((R.take k).foldl uF s1).1)/\((R.take k).foldl uF s1).1.length<=10000000/\DZ w1.heap.size wr p ((R.take k).foldl uF s1).2/\vV w1.heap.size w1 wr/\ZO w wr A R) (fun _ iv _=>R.length-(intOf iv).toNat)
  case atStart=>exact⟨0,Nat.zero_le _,J,J,aA,Tr,Kr,ajA⟩
  clear ajA Tr Kr;obtain⟨k,z,rfl,rfl,hmx,Tr,Kr,ajA⟩:=hrel;have HBr:al w wr:=HB1.trans (Kr.1.mono HB1.size);have uw:=Kr.size (Nat.le_refl _);by_cases aB:k<R.length
  case neg=>
   obtain rfl:k=R.length:=I;have h1:¬(R.length:Int)<R.length:=I;rw[FR.out.done]at hmx⊢;clear aB z FR;by_cases h5:65535<s4.1.length
   ·obtain⟨rfl,rfl⟩:=RL.out h5;have h5':(65535:Int)<s4.1.length:=I;clear RL RO;exact tf
   ·obtain⟨rfl,rfl⟩:=RO.out h5;have h5':¬(65535:Int)<s4.1.length:=I;clear RL RO;exact tf
  have h1:(k:Int)<R.length:=I;have LN:=FR.out.len k;by_cases h5:65535<((R.take k).foldl uF s1).1.length
  case pos=>obtain⟨rfl,rfl⟩:=RL.out (Nat.lt_of_lt_of_le h5 LN);have h5':(65535:Int)<((R.take k).foldl uF s1).1.length:=I;have ay4:¬(((R.take k).foldl uF s1).1.length:Int)<=65535:=I;generalize((R.take k).foldl uF s1).1=s at*;clear RL RO LN;exact tf
  have h5':¬(65535:Int)<((R.take k).foldl uF s1).1.length:=I;have ay4:(((R.take k).foldl uF s1).1.length:Int)<=65535:=I;clear LN;obtain⟨g,cur,hA,hB,hcl,hel⟩:=ajA I;subst hA;obtain⟨ck,hrg,hRR⟩:=hel k aB;have ckl:=hRR.len;have hwf:=hRR.wf;have apA:k*33+33<=cur.length:=I;obtain⟨An,cn,M0,hN⟩:∃(An:Option Addr) (cn:Nat),ck[0]?=some (Value.slice An R[k].name.length cn)/\xE w An cn R[k].name:=by obtain⟨An,cn,At,ct,Am,cm,rfl,hr,hN,_⟩:=hRR;exact⟨An,cn,J,hN⟩
  have M1:ck[1]?=some (.int .i64 R[k].O):=iZ;have M2:ck[2]?=some (.int .i64 R[k].N):=iZ;have M3:ck[3]?=some (.int .i64 R[k].ak):=iZ;have cg:∀j,j<33->cur[k*33+j]?=ck[j]?:=fun j hj=>by rw[<-hrg,List.getElem?_take_of_lt hj,List.getElem?_drop]
  have N0:cur[k*33]?=some (.slice An R[k].name.length cn):=(cg 0 I).trans M0;have N1:cur[k*33+1]?=some (.int .i64 R[k].O):=(cg 1 I).trans M1;have N2:cur[k*33+2]?=some (.int .i64 R[k].N):=(cg 2 I).trans M2;have N3:cur[k*33+3]?=some (.int .i64 R[k].ak):=(cg 3 I).trans M3;clear cg M0 M1 M2 M3;have ST:=FR.out.step k aB;have FW:=FR.out.few k;have hck:=RC.out k aB;have hsn:=Ex (st:=(R.take k).foldl uF s1) (r:=R[k]) I hwf hck;have hdl:=Je hwf hck (zY ((R.take k).foldl uF s1) R[k]) ((yU ((R.take k).foldl uF s1) R[k]).length+2);replace hdl:(zp ((R.take k).foldl uF s1) R[k]).length<=70000:=hdl;have xl:=xk ((R.take k).foldl uF s1).2 (((R.take k).foldl uF s1).1.length:Int) R[k].name;have l1:=uy 2 R[k].O;have l2:=uy 2 R[k].N;have l3:=uy 4 R[k].ak;have l4:=uy 2 ((zp ((R.take k).foldl uF s1) R[k]).length:Int);have hfT:zm (zY ((R.take k).foldl uF s1) R[k]) 800000:=(FW.put _ _).mono I;have K:yU ((R.take k).foldl uF s1) R[k]=((R.take k).foldl uF s1).1++vh ((R.take k).foldl uF s1).2 (((R.take k).foldl uF s1).1.length:Int) R[k].name++uA 2 R[k].O++uA 2 R[k].N++uA 4 R[k].ak:=rfl;have hsl:(yU ((R.take k).foldl uF s1) R[k]).length<=70000:=by rw[K];simp only[List.length_append];omega
  have PT:Hid (∀w':World,al wr w'->Calls prog 112 #[.pointer p,.slice An R[k].name.length cn,.int .i64 (((R.take k).foldl uF s1).1.length:Int)] w' (SI w1.heap.size p (vh ((R.take k).foldl uF s1).2 (((R.take k).foldl uF s1).1.length:Int) R[k].name) (uE R[k].name) (zY ((R.take k).foldl uF s1) R[k]) w')):=Y (fun w' b=>BD w1.heap.size p ((R.take k).foldl uF s1).2 An cn R[k].name (((R.take k).foldl uF s1).1.length:Int) w w' HB1.size (um HBr HBr.size b) (Nat.le_trans uw b.size) (Tr.G uw b) hN (FW.mono I));have D:=Y (fun w' (b:al w w') (ajx:w1.heap.size<=w'.heap.size) (hT':DZ w1.heap.size w' p (zY ((R.take k).foldl uF s1) R[k]))=>P7 w1.heap.size ck R[k] ((yU ((R.take k).foldl uF s1) R[k]).length+2) p (zY ((R.take k).foldl uF s1) R[k]) w w' hRR HB1.size b ajx hT' hfT I I);have er1:GY (zY ((R.take k).foldl uF s1) R[k]) ((yU ((R.take k).foldl uF s1) R[k]).length+2) R[k]=zp ((R.take k).foldl uF s1) R[k]:=by unfold GY;rw[if_pos hck];rfl
  have er2:GZ (zY ((R.take k).foldl uF s1) R[k]) ((yU ((R.take k).foldl uF s1) R[k]).length+2) R[k]=(uF ((R.take k).foldl uF s1) R[k]).2:=by unfold GZ;rw[if_pos hck];rfl
  rw[er1,er2,hck]at D;have S1:((R.take (k+1)).foldl uF s1).1=yU ((R.take k).foldl uF s1) R[k]++uA 2 (zp ((R.take k).foldl uF s1) R[k]).length++zp ((R.take k).foldl uF s1) R[k]:=congrArg Prod.fst ST;have S2:((R.take (k+1)).foldl uF s1).2=(uF ((R.take k).foldl uF s1) R[k]).2:=congrArg Prod.snd ST;have S3:((R.take (k+1)).foldl uF s1).1.length<=10000000:=by rw[ST];exact hsn
  have S1':=Y S1;have S2':=Y S2;have S3':=Y S3;have Q1:=Y (fun w=>yJ R[k].O w);have Q2:=Y (fun w=>yJ R[k].N w);have Q3:=Y (fun w=>zU R[k].ak w);have Q4:=Y (fun w=>yJ ((zp ((R.take k).foldl uF s1) R[k]).length:Int) w);have HS:=Y K;clear S1 S2 S3 er1 er2 hfT hwf hck hRR hN hel ST FW hsn K;generalize(uF ((R.take k).foldl uF s1) (R[k]'aB)).2=T2 at*;generalize zY ((R.take k).foldl uF s1) (R[k]'aB)=T1 at*;generalize uA 2 ((zp ((R.take k).foldl uF s1) (R[k]'aB)).length:Int)=y4 at*;generalize zp ((R.take k).foldl uF s1) (R[k]'aB)=d at*;generalize yU ((R.take k).foldl uF s1) (R[k]'aB)=sr at*;generalize vh ((R.take k).foldl uF s1).2 (((R.take k).foldl uF s1).1.length:Int) (R[k]'aB).name=x at*;generalize((R.take k).foldl uF s1).2=T0 at*;generalize((R.take k).foldl uF s1).1=s at*;generalize uA 2 (R[k]'aB).O=y1 at*;generalize uA 2 (R[k]'aB).N=y2 at*;generalize uA 4 (R[k]'aB).ak=y3 at*;generalize uE (R[k]'aB).name=e at*;generalize(R[k]'aB).name.length=nl at*;generalize(R[k]'aB).O=O at*;generalize(R[k]'aB).N=N at*;generalize(R[k]'aB).ak=ak at*;have c0:=hB.M (k*33) N0;go_wp2_with fail;refine(PT.out _ (Below.refl _ _)).mono ?_;rintro _ w4 ⟨rfl,T4,K4⟩;have B4:=K4.vj hB;have R4:=Gn ajA K4;have K4':=Kr.trans K4;have agv:=K4'.size (Nat.le_refl _);clear PT K4 Tr Kr HBr uw hB ajA c0 N0;go_wp2_with fail;refine wY (by kernel_rfl) (by kernel_rfl) ?_
  (refine ux (v:=(.string (bs s))) J (fun W hW=>by first|(go_simp;done)|(go_simp;omega)) ?_;simp only[E])
  (refine ux (v:=(.string (bs x))) J (fun W hW=>by first|(go_simp;done)|(go_simp;omega)) ?_;simp only[E])
  (refine ux (v:=(.string (bs (s++x)))) J (fun W hW=>by first|(go_simp;done)|(go_simp;omega)) ?_;simp only[E])
  (refine ux (v:=(.slice (some ⟨g,0,none⟩) R.length c)) J (fun W hW=>by first|(go_simp;done)|(go_simp;omega)) ?_;simp only[E])
  (refine ux (v:=(.int .i64 k)) J (fun W hW=>by first|(go_simp;done)|(go_simp;omega)) ?_;simp only[E])
  (refine ux (v:=(.pointer (some ⟨g,k*33,none⟩))) J (fun W hW=>by first|(go_simp;done)|(go_simp;omega)) ?_;simp only[E])
  (refine ux (v:=(.pointer (some ⟨g,k*33+1,none⟩))) J (fun W hW=>by first|(go_simp;done)|(go_simp;omega)) ?_;simp only[E])
  refine vr 3 (.tmp 110) J ⟨g,k*33+1,none⟩ J J (fun W hW=>uB underlying3 J ((B4.G hW B4.lt).M (k*33+1) N1)) ?_;simp only[E];refine vy 84 #[.int .i64 2,.int .i64 O] J (fun W=>by go_simp) (fun W hW=>uI.y9 hW (Q1.out W)) ?_;simp only[E]
  (refine ux (v:=(.string (bs (s++x++y1)))) J (fun W hW=>by first|(go_simp;done)|(go_simp;omega)) ?_;simp only[E])
  (refine ux (v:=(.slice (some ⟨g,0,none⟩) R.length c)) J (fun W hW=>by first|(go_simp;done)|(go_simp;omega)) ?_;simp only[E])
  (refine ux (v:=(.int .i64 k)) J (fun W hW=>by first|(go_simp;done)|(go_simp;omega)) ?_;simp only[E])
  (refine ux (v:=(.pointer (some ⟨g,k*33,none⟩))) J (fun W hW=>by first|(go_simp;done)|(go_simp;omega)) ?_;simp only[E])
  (refine ux (v:=(.pointer (some ⟨g,k*33+2,none⟩))) J (fun W hW=>by first|(go_simp;done)|(go_simp;omega)) ?_;simp only[E])
  refine vr 3 (.tmp 117) J ⟨g,k*33+2,none⟩ J J (fun W hW=>uB underlying3 J ((B4.G hW B4.lt).M (k*33+2) N2)) ?_;simp only[E];refine vy 84 #[.int .i64 2,.int .i64 N] J (fun W=>by go_simp) (fun W hW=>uI.y9 hW (Q2.out W)) ?_;simp only[E]
  (refine ux (v:=(.string (bs (s++x++y1++y2)))) J (fun W hW=>by first|(go_simp;done)|(go_simp;omega)) ?_;simp only[E])
  (refine ux (v:=(.slice (some ⟨g,0,none⟩) R.length c)) J (fun W hW=>by first|(go_simp;done)|(go_simp;omega)) ?_;simp only[E])
  (refine ux (v:=(.int .i64 k)) J (fun W hW=>by first|(go_simp;done)|(go_simp;omega)) ?_;simp only[E])
  (refine ux (v:=(.pointer (some ⟨g,k*33,none⟩))) J (fun W hW=>by first|(go_simp;done)|(go_simp;omega)) ?_;simp only[E])
  (refine ux (v:=(.pointer (some ⟨g,k*33+3,none⟩))) J (fun W hW=>by first|(go_simp;done)|(go_simp;omega)) ?_;simp only[E])
  refine vr 3 (.tmp 124) J ⟨g,k*33+3,none⟩ J J (fun W hW=>uB underlying3 J ((B4.G hW B4.lt).M (k*33+3) N3)) ?_;simp only[E];refine vy 84 #[.int .i64 4,.int .i64 ak] J (fun W=>by go_simp) (fun W hW=>uI.y9 hW (Q3.out W)) ?_;simp only[E]
  (refine ux (v:=(.string (bs (s++x++y1++y2++y3)))) J (fun W hW=>by first|(go_simp;done)|(go_simp;omega)) ?_;simp only[E])
  (refine ux (v:=(.string (bs (s++x++y1++y2++y3)))) J (fun W hW=>by first|(go_simp;done)|(go_simp;omega)) ?_;simp only[E])
  refine wpQuiet_nil ?_;intro w5 b5;rw[<-HS.out];have T5:=T4.G agv b5;have K5:=K4'.trans (vV.y9 b5 agv);have B5:=B4.G b5 B4.lt;have R5:=Gn R4 (vV.y9 b5 agv);have ain:=K5.size (Nat.le_refl _);have HB5:al w w5:=HB1.trans (K5.1.mono HB1.size);clear T4 K4' b5 B4 R4 Q1 Q2 Q3 N1 N2 N3 agv;go_wp2_with(refine ur (.load 119 (.tmp 131)) J ?_;go_must(refine uu J _ _ J g (k*33) dx B5 33 apA _ underlying119 J uU ck hrg ?_));refine(D.out _ HB5 ain T5).mono ?_;rintro _ w6 ⟨rfl,T6,K6⟩;have K6':=K5.trans K6;have R6:=Gn R5 K6;have aiY:=K6'.size (Nat.le_refl _);clear D T5 K5 R5 B5 HB5 K6 ain;go_wp2_with fail;refine(Q4.out _).mono ?_;rintro _ w7 ⟨rfl,b7⟩;have T7:=T6.G aiY b7;have K7:=K6'.trans (vV.y9 b7 aiY);have R7:=Gn R6 (vV.y9 b7 aiY);clear T6 K6' R6 b7 Q4;go_wp2_with fail;go_roundw
  case rel=>exact⟨k+1,I,gp,by rw[S1'.out,List.append_assoc],S3'.out,by rw[S2'.out];exact T7,K7,R7⟩
  case measure=>simp[intOf];omega
theorem SP(cs:List Value)(m:vU)(pack:Bool)(Aq Aa Au Ae:Option Addr)(cq ca cu ce:Nat)(w:World)(h:zB w cs m Aq Aa Au Ae cq ca cu ce)(hq:m.qs.length<=700)(hr:m.Cq.length<=400):
  Calls prog 115 #[.agg cs.toArray,.bool pack] w (uI (.tuple #[.string (bs (vN m pack).1),.int .i64 (vN m pack).2]) w):=by
 by_cases hc:wH m=0
 ·exact P8 cs m pack Aq Aa Au Ae cq ca cu ce w h hc hq hr
 ·rw[Iv pack hc];exact SK cs m pack Aq Aa Au Ae cq ca cu ce w h hc
theorem Mn(cs:List Value)(m:vU)(pack:Bool)(Aq Aa Au Ae:Option Addr)(cq ca cu ce:Nat)(w:World)(h:zB w cs m Aq Aa Au Ae cq ca cu ce)(hq:m.qs.length<=100)(hr:m.Cq.length<=200):
  Calls prog 72 #[.agg cs.toArray,.bool pack] w (uI (.tuple #[.string (bs (vN m pack).1),.int .i64 (vN m pack).2]) w):=by
 by_cases hc:wH m=0
 ·exact Kv cs m pack Aq Aa Au Ae cq ca cu ce w h hc hq hr
 ·rw[Iv pack hc];exact Mm cs m pack Aq Aa Au Ae cq ca cu ce w h hc
def m14:vU:=⟨Hd.zero,[⟨[[97],[98]],1,1⟩],[],[],[]⟩
end Go.Proofs.YthnbcmlnpdabhaaGreat
