/-
  Layer 14 (message):Check.
-/
import Derived.Test.YtakkipnmpmobbaaGreatHAq
import Derived.Test.YtakkipnmpmobbaaGreatHSq
namespace Go.Proofs.YtakkipnmpmobbaaGreat
open _root_.Go.Proofs.Tryz
set_option maxHeartbeats 8000000
open Go.RowKit
set_option maxRecDepth 100000
set_option linter.unusedVariables false
set_option linter.unusedSimpArgs false
theorem Jm(cs:List Value)(m:tq)(Aq Aa Au Ae:Option Addr)(cq ca cu ce:Nat)(w:World)(h:Ct w cs m Aq Aa Au Ae cq ca cu ce):
  Calls prog 120 #[.agg cs.toArray] w (rW (.int .i64 (uf m)) w):=by
 have hcs:=h.hcs;have E:cs.length=14:=kU;have L10:cs[10]?=some (.slice Aq m.qs.length cq):=dh;have LH:(cs.drop 0).take 10=m.hd.uY:=dh;have LI:=J (fun w=>Lu m.hd (.slice Aq m.qs.length cq) Aa Au Ae m.an.length m.au.length m.ex.length ca cu ce w);rw[<-hcs]at LI;have CH:Hid (∀w,Calls prog 132 #[.agg m.hd.uY.toArray] w (rW (.int .i64 (if m.hd.ok then 0 else 4)) w)):=J (fun w=>yl m.hd w);have lq:=h.lq;have la:=h.la;have lu:=h.lu;have le:=h.le;have hq:=h.hq;have ha:=h.ha;have hu:=h.hu;have he:=h.he;have HE:=J (WC m);have FQ:=J (Ie qE m.qs);have FQ':=J (EH qE m.qs);have FA:=J (Ie r8 m.an);have FA':=J (EH r8 m.an);have FU:=J (Ie r8 m.au);have FU':=J (EH r8 m.au);have FE:=J (Ie r8 m.ex);have FE':=J (EH r8 m.ex);clear h hcs;generalize uf m=res at*;generalize vw (m.qs.map qE)=fq at*;generalize vw (m.an.map r8)=fa at*;generalize vw (m.au.map r8)=fu at*;generalize vw (m.ex.map r8)=fe at*;generalize m.hd.uY=HV,m.hd.ok=ok at*;generalize m.qs=hb,m.an=LA at*;generalize m.au=LU,m.ex=LE at*;have B0:=N.new w 169 cs;have HB0:Below w.heap.size w (w.alloc (.cells cs.toArray 169)):=fZ;go_enter func120,ntmps120;go_wp2_with(refine rF (.load 166 (.tmp 14)) I ?_;go_must(refine rG I _ _ I w.heap.size 0 I B0 10 Y _ underlying166 I TF HV LH ?_));go_wp2_with fail;refine(CH.out _).mono ?_;rintro _ B ⟨rfl,b1⟩;have B1:=B0.G b1 B0.lt;have HB1:=rC HB0 HB0.size b1;clear B0 HB0 b1 CH;cases ok with
 |false=>have hr0:=HE.out.trans (if_pos I);subst hr0;clear HE;exact qj
 |true=>
 have HE1:=J (HE.out.trans (if_neg ar));clear HE;have c10:=B1.rD 10 L10;by_cases U:65535<hb.length
 case pos=>have h1':(65535:Int)<hb.length:=Y;have hr0:=HE1.out.trans (if_pos (.inl U));subst hr0;clear HE1 U;exact qj
 have h1':¬(65535:Int)<hb.length:=Y;go_wp2_with(refine rF (.load 169 (.tmp 1)) I ?_;go_must(refine rG I _ _ I w.heap.size 0 I B1 14 Y _ underlying169 I tn cs (uH Y) ?_));go_wp2_with fail;refine(LI.out _).mono ?_;rintro _ w2 ⟨rfl,b2⟩;have B2:=B1.G b2 B1.lt;have HB2:=rC HB1 HB1.size b2;clear B1 HB1 b2 c10;have I0:∀w:World,(Instr.index 218 (.agg #[.slice Aa LA.length ca,.slice Au LU.length cu,.slice Ae LE.length ce]) (.int .i64 0)).run prog w= .ok (.slice Aa LA.length ca) w:=fun _=>by kernel_rfl
 have I1:∀w:World,(Instr.index 218 (.agg #[.slice Aa LA.length ca,.slice Au LU.length cu,.slice Ae LE.length ce]) (.int .i64 1)).run prog w= .ok (.slice Au LU.length cu) w:=fun _=>by kernel_rfl
 have I2:∀w:World,(Instr.index 218 (.agg #[.slice Aa LA.length ca,.slice Au LU.length cu,.slice Ae LE.length ce]) (.int .i64 2)).run prog w= .ok (.slice Ae LE.length ce) w:=fun _=>by kernel_rfl
 go_wp2_with fail;refine wp_loop_rounds 4 ?_;rw[rounds_succ];by_cases F:65535<LA.length
 case pos=>have h2':(65535:Int)<LA.length:=Y;have hr0:=HE1.out.trans (if_pos (.inr (.inl F)));subst hr0;clear HE1 F U;exact qi
 have h2':¬(65535:Int)<LA.length:=Y;go_wp2_with fail;rw[rounds_succ];by_cases h3:65535<LU.length
 case pos=>have h3':(65535:Int)<LU.length:=Y;have hr0:=HE1.out.trans (if_pos (.inr (.inr (.inl h3))));subst hr0;clear HE1 h3 F U;exact qi
 have h3':¬(65535:Int)<LU.length:=Y;go_wp2_with fail;rw[rounds_succ];by_cases h4:65535<LE.length
 case pos=>have h4':(65535:Int)<LE.length:=Y;have hr0:=HE1.out.trans (if_pos (.inr (.inr (.inr h4))));subst hr0;clear HE1 h4 h3 F U;exact qi
 have h4':¬(65535:Int)<LE.length:=Y;have HE2:=J (HE1.out.trans (if_neg Y));clear HE1;go_wp2_with fail;rw[rounds_succ];have c10:=B2.rD 10 L10;go_wp2_with fail;clear I0 I1 I2 U F h3 h4;go_loopw[36] (fun iv wr=>∃k:Nat,k<=hb.length/\iv= .int .i64 k/\Hid (∀j (hj:j<hb.length),j<k->qE hb[j]=0)/\ao w2 wr) (fun iv _=>hb.length-(intOf iv).toNat)
 case atStart=>exact⟨0,Nat.zero_le _,I,J (fun j hj h=>by omega),Below.refl _ _⟩
 case round=>
  obtain⟨k,O,rfl,HJ,Z⟩:=hrel;have HBr:=rC HB2 (zM HB2 (Nat.le_refl _)) Z;by_cases aA:k<hb.length
  ·
   have h1:(k:Int)<hb.length:=Y;obtain⟨ba,oa,hA,hba,hel⟩:=hq Y;subst hA;obtain⟨An,cn,hrg,hN⟩:=hel k aA;have hRk:=rN hrg HBr hba;unfold qC at hRk;have CK:=J (fun w' (b:ao w w')=>wK An cn hb[k].name w' (hN.G b).1 bf);have W1:=J (fun w=>GM hb[k].Q w);have W2:=J (fun w=>GM hb[k].cl w);have FK:=J (FQ'.out k aA HJ.out);have HJ2:=J (fun(hz:qE hb[k]=0) j (hj:j<hb.length) (hjk:j<k+1)=>(by by_cases e:j=k;(subst e;exact hz);exact HJ.out j hj Y:qE hb[j]=0));have HQ:Hid (qE hb[k]=_):=J (by unfold qE;rfl);clear hel hrg hN HJ;generalize qE (hb[k]'aA)=qe at*;generalize rR (hb[k]'aA).name=e0 at*;generalize(hb[k]'aA).name.length=nl at*;generalize xG 65535 (hb[k]'aA).Q=i1 at*;generalize xG 65535 (hb[k]'aA).cl=i2 at*;generalize(hb[k]'aA).Q=Q at*;generalize(hb[k]'aA).cl=cl at*;go_wp2_with(refine rF (.load 160 (.tmp 38)) I ?_;go_must(refine sr I 160 (.tmp 38) I ba (oa+k*3) I [.slice An nl cn,.int .i64 Q,.int .i64 cl] hRk _ underlying160 I xS ?_));have HBn:=HBr.alloc HBr.size (.cells #[.slice An nl cn,.int .i64 Q,.int .i64 cl] 160);have hbn:=Z.alloc Z.size (.cells #[.slice An nl cn,.int .i64 Q,.int .i64 cl] 160);refine(CK.out _ HBn).mono ?_;rintro _ w4 ⟨rfl,rfl⟩;clear CK hRk HBr Z;by_cases he0:e0=0
   case neg=>have e1:(e0 !=0)=true:=jY;have e2:=HQ.out.trans (if_pos he0);subst e2;have e3:=FK.out he0;subst e3;have hr0:=HE2.out.trans (if_pos he0);subst hr0;clear HE2 FK HJ2 HQ he0;go_wp2_with fail;go_ret;exact rW.mk I HBn
   subst he0;replace HQ:=J (HQ.out.trans (if_neg ar));go_wp2_with fail;refine(W1.out _).mono ?_;rintro _ w4 ⟨rfl,rfl⟩;clear W1;cases i1 with
   |false=>exact oM
   |true=>
   go_wp2_with fail;refine(W2.out _).mono ?_;rintro _ w4 ⟨rfl,rfl⟩;clear W2;cases i2 with
   |false=>exact oM
   |true=>
    have e2:qe=0:=HQ.out;subst e2;clear HQ;go_wp2_with fail;go_roundw
    case rel=>exact⟨k+1,Y,fQ,J (HJ2.out trivial),hbn⟩
    case measure=>simp[intOf];omega
  ·
   obtain rfl:k=hb.length:=Y;have hf0:=FQ.out (fun j hj=>HJ.out j hj hj);subst hf0;have HEX:=J (HE2.out.trans (if_neg ar));have h1:¬(hb.length:Int)<hb.length:=Y;have B3:=B2.G Z B2.lt;have HB3:=HBr;clear HJ aA FQ FQ' HE2 HBr Z B2 HB2 c10 hq;go_wp2_with(refine rF (.load 169 (.tmp 1)) I ?_;go_must(refine rG I _ _ I w.heap.size 0 I B3 14 Y _ underlying169 I tn cs (uH Y) ?_));refine(LI.out _).mono ?_;rintro _ wa ⟨rfl,ba⟩;have HBa:=rC HB3 HB3.size ba;clear B3 HB3 ba LI;have I0:∀w:World,(Instr.index 218 (.agg #[.slice Aa LA.length ca,.slice Au LU.length cu,.slice Ae LE.length ce]) (.int .i64 0)).run prog w= .ok (.slice Aa LA.length ca) w:=fun _=>by kernel_rfl
   have I1:∀w:World,(Instr.index 218 (.agg #[.slice Aa LA.length ca,.slice Au LU.length cu,.slice Ae LE.length ce]) (.int .i64 1)).run prog w= .ok (.slice Au LU.length cu) w:=fun _=>by kernel_rfl
   have I2:∀w:World,(Instr.index 218 (.agg #[.slice Aa LA.length ca,.slice Au LU.length cu,.slice Ae LE.length ce]) (.int .i64 2)).run prog w= .ok (.slice Ae LE.length ce) w:=fun _=>by kernel_rfl
   go_wp2_with fail;refine wp_loop_rounds 4 ?_;have HBr:=HBa;clear HBa;rw[rounds_succ];go_wp2_with fail;go_loopw[64] (fun iv wr=>∃k:Nat,k<=LA.length/\iv= .int .i64 k/\Hid (∀j (hj:j<LA.length),j<k->r8 LA[j]=0)/\ao w wr) (fun iv _=>LA.length-(intOf iv).toNat)
   case atStart=>exact⟨0,Nat.zero_le _,I,J (fun j hj h=>by omega),HBr⟩
   clear HBr;obtain⟨k,O,rfl,HJ,HBr⟩:=hrel;by_cases aA:k<LA.length
   case pos=>have h1:(k:Int)<LA.length:=Y;obtain⟨ba,oa,hA,hba,hel⟩:=ha Y;subst hA;obtain⟨ck,hrg,hRR⟩:=hel k aA;have hRk:=rN hrg HBr hba;have ckl:=hRR.len;have ck1:=J hRR.one;have CK:=J (fun w' (b:ao w w')=>vN ck LA[k] w' (hRR.G b));have FK:=J ((FA').out k aA HJ.out);have HJ2:=J (fun(hz:r8 LA[k]=0) j (hj:j<LA.length) (hjk:j<k+1)=>(by by_cases e:j=k;(subst e;exact hz);exact HJ.out j hj Y:r8 LA[j]=0));clear hel hrg hRR HJ;generalize r8 (LA[k]'aA)=ek at*;exact mz
   obtain rfl:k=LA.length:=Y;have hf0:=(FA).out (fun j hj=>HJ.out j hj hj);subst hf0;replace HEX:=J (HEX.out.trans (if_neg ar));have h1:¬(LA.length:Int)<LA.length:=Y;clear HJ aA O FA FA';go_wp2_with fail;rw[rounds_succ];go_wp2_with fail;go_loopw[64] (fun iv wr=>∃k:Nat,k<=LU.length/\iv= .int .i64 k/\Hid (∀j (hj:j<LU.length),j<k->r8 LU[j]=0)/\ao w wr) (fun iv _=>LU.length-(intOf iv).toNat)
   case atStart=>exact⟨0,Nat.zero_le _,I,J (fun j hj h=>by omega),HBr⟩
   clear HBr;obtain⟨k,O,rfl,HJ,HBr⟩:=hrel;by_cases aA:k<LU.length
   case pos=>have h1:(k:Int)<LU.length:=Y;obtain⟨ba,oa,hA,hba,hel⟩:=hu Y;subst hA;obtain⟨ck,hrg,hRR⟩:=hel k aA;have hRk:=rN hrg HBr hba;have ckl:=hRR.len;have ck1:=J hRR.one;have CK:=J (fun w' (b:ao w w')=>vN ck LU[k] w' (hRR.G b));have FK:=J ((FU').out k aA HJ.out);have HJ2:=J (fun(hz:r8 LU[k]=0) j (hj:j<LU.length) (hjk:j<k+1)=>(by by_cases e:j=k;(subst e;exact hz);exact HJ.out j hj Y:r8 LU[j]=0));clear hel hrg hRR HJ;generalize r8 (LU[k]'aA)=ek at*;exact mz
   obtain rfl:k=LU.length:=Y;have hf0:=(FU).out (fun j hj=>HJ.out j hj hj);subst hf0;replace HEX:=J (HEX.out.trans (if_neg ar));have h1:¬(LU.length:Int)<LU.length:=Y;clear HJ aA O FU FU';go_wp2_with fail;replace HEX:Hid (res=if fe≠0 then fe else 0):=J (by rw[HEX.out];by_cases h:fe=0<;>simp[h]);rw[rounds_succ];go_wp2_with fail;go_loopw[64] (fun iv wr=>∃k:Nat,k<=LE.length/\iv= .int .i64 k/\Hid (∀j (hj:j<LE.length),j<k->r8 LE[j]=0)/\ao w wr) (fun iv _=>LE.length-(intOf iv).toNat)
   case atStart=>exact⟨0,Nat.zero_le _,I,J (fun j hj h=>by omega),HBr⟩
   clear HBr;obtain⟨k,O,rfl,HJ,HBr⟩:=hrel;by_cases aA:k<LE.length
   case pos=>have h1:(k:Int)<LE.length:=Y;obtain⟨ba,oa,hA,hba,hel⟩:=he Y;subst hA;obtain⟨ck,hrg,hRR⟩:=hel k aA;have hRk:=rN hrg HBr hba;have ckl:=hRR.len;have ck1:=J hRR.one;have CK:=J (fun w' (b:ao w w')=>vN ck LE[k] w' (hRR.G b));have FK:=J ((FE').out k aA HJ.out);have HJ2:=J (fun(hz:r8 LE[k]=0) j (hj:j<LE.length) (hjk:j<k+1)=>(by by_cases e:j=k;(subst e;exact hz);exact HJ.out j hj Y:r8 LE[j]=0));clear hel hrg hRR HJ;generalize r8 (LE[k]'aA)=ek at*;exact mz
   obtain rfl:k=LE.length:=Y;have hf0:=(FE).out (fun j hj=>HJ.out j hj hj);subst hf0;replace HEX:=J (HEX.out.trans (if_neg ar));have h1:¬(LE.length:Int)<LE.length:=Y;clear HJ aA O FE FE';go_wp2_with fail;obtain rfl:res=0:=HEX.out;rw[rounds_succ];go_wp2_with fail;go_ret;exact rW.mk I HBr
structure Fold {α:Type} (f:WS->α->WS) (l:List α) (sb se:WS) (h2:Nat):Prop where
 len:∀k,((l.take k).foldl f sb).1.length<=h2
 few:∀k,xP ((l.take k).foldl f sb).2 600000
 step:∀k (O:k<l.length),(l.take (k+1)).foldl f sb=f ((l.take k).foldl f sb) l[k]
 done:(l.take l.length).foldl f sb=se
theorem ZT(l:List Qn)(sb:WS)(n h2:Nat)(hf:xP sb.2 n)(hE:(l.foldl uk sb).1.length<=h2)(hn:n+254*l.length<=600000):Fold uk l sb (l.foldl uk sb) h2:=
 ⟨fun k=>Nat.le_trans (TM l k sb) hE,fun k=>(FH _ _ _ hf).mono cD,fun k O=>BS _ _ _ O _,by rw[List.take_length]⟩
theorem Jn(l:List RR)(sb:WS)(n h2:Nat)(hf:xP sb.2 n)(hE:(l.foldl r7 sb).1.length<=h2)(hn:n+762*l.length<=600000):Fold r7 l sb (l.foldl r7 sb) h2:=
 ⟨fun k=>Nat.le_trans (TN l k sb) hE,fun k=>(Db _ _ _ hf).mono cD,fun k O=>BS _ _ _ O _,by rw[List.take_length]⟩
structure agF (m:tq) (pack:Bool) (s1 s2 s3 s4:WS):Prop where
 q:Fold uk m.qs (vx m pack) s1 s4.1.length
 a:Fold r7 m.an s1 s2 s4.1.length
 u:Fold r7 m.au s2 s3 s4.1.length
 e:Fold r7 m.ex s3 s4 s4.1.length
 eq:s4=Cc m pack
theorem acz(m:tq)(pack:Bool)(hq:m.qs.length<=700)(hr:m.Em.length<=400):∃s1 s2 s3 s4,agF m pack s1 s2 s3 s4:=by
 have E:m.Em.length=m.an.length+m.au.length+m.ex.length:=by simp[tq.Em];omega
 have f0:=WD m pack;have f1:=FH m.qs _ _ f0;have f2:=Db m.an _ _ f1;have f3:=Db m.au _ _ f2;have e3:=ym m.ex (m.au.foldl r7 (m.an.foldl r7 (m.qs.foldl uk (vx m pack))));have e2:=ym m.au (m.an.foldl r7 (m.qs.foldl uk (vx m pack)));have e1:=ym m.an (m.qs.foldl uk (vx m pack));refine⟨_,_,_,_,ZT m.qs _ 0 _ f0 Y Y,Jn m.an _ _ _ f1 Y Y,Jn m.au _ _ _ f2 Y Y,Jn m.ex _ _ _ f3 (Nat.le_refl _) Y,(Vm m pack).symm⟩
theorem Xg{m:tq}(h:MOk m)(pack:Bool):I5 m.hd m.qs.length m.an.length m.au.length m.ex.length=((vx m pack).1,0):=by
 obtain⟨h0,U,F,h3,h4,_,_⟩:=h;unfold I5;rw[if_pos ⟨h0,Y,Y,Y,Y⟩];rfl
theorem QA(cs:List Value)(m:tq)(pack:Bool)(Aq Aa Au Ae:Option Addr)(cq ca cu ce:Nat)(w:World)(h:Ct w cs m Aq Aa Au Ae cq ca cu ce)(hc:uf m≠0):
  Calls prog 113 #[.agg cs.toArray,.bool pack] w (rW (.tuple #[.string (bs []),.int .i64 (uf m)]) w):=by
 have E:cs.length=14:=by rw[h.hcs];exact z8 _ _ _ _ _
 have CK:=J (fun w' (b:ao w w')=>Jm cs m Aq Aa Au Ae cq ca cu ce w' (h.G b));generalize uf m=e at*;have he:(e !=0)=true:=iI;clear hc h;have B0:=N.new w 169 cs;have HB0:Below w.heap.size w (w.alloc (.cells cs.toArray 169)):=fZ;go_enter func113,ntmps113;go_wp2_with(refine rF (.load 169 (.tmp 2)) I ?_;go_must(refine rG I _ _ I w.heap.size 0 I B0 14 Y _ underlying169 I tn cs (uH Y) ?_));go_wp2_with fail;refine(CK.out _ HB0).mono ?_;rintro _ B ⟨rfl,b1⟩;have HB1:=rC HB0 HB0.size b1;go_wp2_with fail;go_ret2;exact rW.mk I HB1
theorem yJ.wf{w:World}{cs:List Value}{r:RR}(h:yJ w cs r):r.wf:=by obtain⟨_,_,_,_,_,_,_,hr,_⟩:=h;exact hr
theorem DX{st:WS}{r:RR}(E:st.1.length<=65535)(hw:r.wf)(hc:r8 r=0):(r7 st r).1.length<=10000000:=by
 have U:=Lx hw hc (zz st r) ((xF st r).length+2);have F:=vC st.2 (st.1.length:Int) r.name;change(xF st r++rP 2 (yA st r).length++yA st r).length<=_;change(yA st r).length<=_ at U;simp only[xF,List.length_append,rL];omega
theorem ZU{st:WS}{q:Qn}(E:st.1.length<=65535):(uk st q).1.length<=10000000:=by
 have F:=vC st.2 (st.1.length:Int) q.name;simp only[uk,List.length_append,rL];omega
theorem N0(cs:List Value)(m:tq)(pack:Bool)(Aq Aa Au Ae:Option Addr)(cq ca cu ce:Nat)(w:World)(h:Ct w cs m Aq Aa Au Ae cq ca cu ce)(hc:uf m=0)(hq:m.qs.length<=700)(hr:m.Em.length<=400):
  Calls prog 113 #[.agg cs.toArray,.bool pack] w (rW (.tuple #[.string (bs (tM m pack).1),.int .i64 (tM m pack).2]) w):=by
 have MK:=TJ hc;obtain⟨s1,s2,s3,s4,PL⟩:=acz m pack hq hr;have hcs:=h.hcs;have E:cs.length=14:=kU;have L10:cs[10]?=some (.slice Aq m.qs.length cq):=dh;have L11:cs[11]?=some (.slice Aa m.an.length ca):=dh;have L12:cs[12]?=some (.slice Au m.au.length cu):=dh;have L13:cs[13]?=some (.slice Ae m.ex.length ce):=dh;have LH:(cs.drop 0).take 10=m.hd.uY:=dh;have LI:=J (fun w=>Lu m.hd (.slice Aq m.qs.length cq) Aa Au Ae m.an.length m.au.length m.ex.length ca cu ce w);rw[<-hcs]at LI;have CK:=J (fun w' (b:ao w w')=>Jm cs m Aq Aa Au Ae cq ca cu ce w' (h.G b));rw[hc]at CK;have HP:Hid (∀w,Calls prog 121 #[.agg m.hd.uY.toArray,.agg #[.int .i64 (m.qs.length:Int),.int .i64 (m.an.length:Int),.int .i64 (m.au.length:Int),.int .i64 (m.ex.length:Int)]] w (rW (.tuple #[.string (bs (vx m pack).1),.int .i64 0]) w)):=J (fun w=>by
  have:=P5 m.hd m.qs.length m.an.length m.au.length m.ex.length w;rw[Xg MK pack]at this;exact this)
 have RL:Hid (65535<s4.1.length->(tM m pack).1=[]/\(tM m pack).2=3):=J (fun E=>by rw[Dc pack hc cE];exact⟨I,I⟩);have RO:Hid (¬65535<s4.1.length->(tM m pack).1=s4.1/\(tM m pack).2=0):=J (fun E=>by rw[Ig pack hc cE,<-PL.eq];exact⟨I,I⟩);have hq':=h.hq;have ha:=h.ha;have hu:=h.hu;have he:=h.he;have FQ:=J PL.q;have FA:=J PL.a;have FU:=J PL.u;have FE:=J PL.e;have QC:Hid (∀k (O:k<m.qs.length),rR m.qs[k].name=0):=J (fun k O=>MK.q _ (List.getElem_mem O));have AC:Hid (∀k (O:k<m.an.length),r8 m.an[k]=0):=kJ;have UC:Hid (∀k (O:k<m.au.length),r8 m.au[k]=0):=kJ;have EC:Hid (∀k (O:k<m.ex.length),r8 m.ex[k]=0):=kJ;have lq:=MK.lq;have la:=MK.la;have lu:=MK.lu;have le:=MK.le;have h12:=Lv m pack;have hT0:(vx m pack).2=if pack then some []else none:=rfl
 clear h hcs hc MK PL hq hr;generalize(tM m pack).1=o1 at*;generalize(tM m pack).2=o2 at*;generalize vx m pack=s0 at*;generalize m.hd.uY=HV,m.qs=hb at*;generalize m.an=LA,m.au=LU,m.ex=LE at*;have B0:=N.new w 169 cs;have HB0:Below w.heap.size w (w.alloc (.cells cs.toArray 169)):=fZ;go_enter func113,ntmps113;go_wp2_with(refine rF (.load 169 (.tmp 2)) I ?_;go_must(refine rG I _ _ I w.heap.size 0 I B0 14 Y _ underlying169 I tn cs (uH Y) ?_));go_wp2_with fail;refine(CK.out _ HB0).mono ?_;rintro _ B ⟨rfl,b1⟩;have B1:=B0.G b1 B0.lt;have HB1:=rC HB0 HB0.size b1;clear B0 HB0 b1 CK;have c10:=B1.rD 10 L10;have c11:=B1.rD 11 L11;have c12:=B1.rD 12 L12;have c13:=B1.rD 13 L13;have B1':=B1.alloc (.cells #[.int .i64 (hb.length:Int),.int .i64 (LA.length:Int),.int .i64 (LU.length:Int),.int .i64 (LE.length:Int)] 210);go_wp2_with(refine rF (.load 166 (.tmp 38)) I ?_;go_must(refine rG I _ _ I w.heap.size 0 I B1' 10 Y _ underlying166 I TF HV LH ?_));refine(HP.out _).mono ?_;rintro _ w2 ⟨rfl,b2⟩;have B2:=B1'.G b2 B1'.lt;have HB2:ao w w2:=rC (HB1.alloc HB1.size _) (by have:=HB1.size;simp;omega) b2;clear B1' b2 B1 HB1 c10 c11 c12 c13 HP LH;obtain⟨A,c,w3,hr3,o3,b3⟩:=ab2 w2 s0.1 aL;have HR3:=J hr3;have H12:=J h12;clear h12;clear hr3;have akJ:=b3.size;have W4:xq w2.heap.size (w3.alloc (.cells #[.slice A s0.1.length c,.pointer none] 214)) w3.heap.size s0.1 none none:=⟨A,c,akJ,N.new _ _ [.slice A s0.1.length c,.pointer none],o3.G ((Below.refl _ _).alloc (Nat.le_refl _) _),I⟩;have K4:tC w2.heap.size w2 (w3.alloc (.cells #[.slice A s0.1.length c,.pointer none] 214)):=tC.Bc (b3.alloc akJ _) (Nat.le_refl _);go_upto_if 50 with(refine rF (.convert 9 101 (.tmp 47)) rfl ?_;go_must(refine TQ rfl 9 101 (.tmp 47) rfl _ rfl HR3.out ?_));go_cut[] (fun wx=>∃p,xq w2.heap.size wx w3.heap.size s0.1 p s0.2/\tC w2.heap.size w2 wx)
 case first=>
  cases pack with
  |false=>
   have hT1:s0.2=none:=hT0;go_wp2_with fail;go_meet
   case rel=>exact⟨none,by rw[hT1];exact W4,K4⟩
  |true=>
   have hT1:s0.2=some []:=hT0;have HT1:=J hT1;clear hT1 hT0;go_wp2_with fail;refine(YZ _).mono ?_;rintro _ w5 ⟨g,b,rfl,hT,hB,hg,hbb⟩;have Bw:=(N.new w3 214 [.slice A s0.1.length c,.pointer none]).G hB (N.new w3 214 [.slice A s0.1.length c,.pointer none]).lt;have Ow:yx w5 w2.heap.size (.slice A s0.1.length c) s0.1:=(o3.G ((Below.refl _ _).alloc (Nat.le_refl _) _)).G hB;have hb3:w2.heap.size<=(w3.alloc (.cells #[.slice A s0.1.length c,.pointer none] 214)).heap.size:=aB;have T5:Be w2.heap.size w5 (some ⟨g,0,none⟩) (some []):=⟨g,b,I,Nat.le_trans hb3 hg,Nat.le_trans hb3 hbb,hT⟩;have K5:tC w2.heap.size w2 w5:=K4.trans (tC.Bc hB hb3);clear W4 K4 hT hg hbb o3 hB;go_wp2_with(refine rF (.store 212 (.tmp 52) (.tmp 51)) I (af I w3.heap.size 1 _ Bw ar (by kernel_rfl) ?_));intro w6 hb6 hg6 hs6;have W6:xq w2.heap.size w6 w3.heap.size s0.1 (some ⟨g,0,none⟩) (some []):=⟨A,c,akJ,hb6,Ow.kept hg6 (.inr (fun he=>Ow.ne Bw K he.symm)),T5.grown hg6 (by
    intro k O;obtain rfl:=Option.some.inj O;exact⟨_,_,_,Bw,K⟩)⟩
   have K6:tC w2.heap.size w2 w6:=by refine K5.trans ⟨rE (Below.refl _ _) hg6 (K5.size (Nat.le_refl _)) akJ,fun g' t cs' Z n1 n2=>Z.grown hg6 ?_⟩;intro he;obtain rfl:=Option.some.inj he;have hh:w5.heap[w3.heap.size]?=_:=Z;have b1':w5.heap[w3.heap.size]?=_:=Bw;exact qB
   clear Bw Ow T5 K5 hb6 hg6 hs6;go_wp2_with fail;go_meet
   case rel=>exact⟨_,by rw[HT1.out];exact W6,K6⟩
 case rest=>
  obtain⟨p,W5,K5⟩:=hcut;clear W4 K4 o3 HR3 hT0;generalize w3.heap.size=gw at*;have hsl:((hb.take 0).foldl uk s0).1.length<=65535:=by have:=H12.out;simp;omega
  have B5:=K5.2 _ _ _ B2 K K;have c10:=B5.rD 10 L10;clear b3 H12;go_wp2_with fail;go_loopw[56] (fun iv wr=>∃k:Nat,k<=hb.length/\iv= .int .i64 k/\((hb.take k).foldl uk s0).1.length<=65535/\xq w2.heap.size wr gw ((hb.take k).foldl uk s0).1 p ((hb.take k).foldl uk s0).2/\tC w2.heap.size w2 wr) (fun iv _=>hb.length-(intOf iv).toNat)
  case atStart=>exact⟨0,Nat.zero_le _,I,hsl,W5,K5⟩
  clear hsl W5 K5 c10 B5;obtain⟨k,O,rfl,hsl,Wr,Kr⟩:=hrel;by_cases aA:k<hb.length
  case pos=>
   have h1:(k:Int)<hb.length:=Y;obtain⟨ba,oa,hA,hba,hel⟩:=hq' Y;subst hA;obtain⟨An,cn,hrg,hN⟩:=hel k aA;have HBr:ao w wr:=iW;have hRk:=rN hrg HBr hba;have rH:=Kr.size (Nat.le_refl _);have ST:=J (FQ.out.step k aA);have LN:=J (FQ.out.len (k+1));have FW:=FQ.out.few k;have RC:=J (fun w' (hW:xq w2.heap.size w' gw ((hb.take k).foldl uk s0).1 p ((hb.take k).foldl uk s0).2) (Z:ao w w') (rH:w2.heap.size<=w'.heap.size)=>Kx w2.heap.size gw ((hb.take k).foldl uk s0) p An cn hb[k] w w' hW hN HB2.size Z rH Y (FW.mono Y));rw[<-ST.out,QC.out k aA]at RC;unfold qC at hRk RC;clear hel hrg hN FW;obtain⟨sn,hsn⟩:∃sn,sn=(hb.take (k+1)).foldl uk s0:=gh;rw[<-hsn]at RC ST LN;have HSN:=J hsn.symm;have amd:sn.1.length<=10000000:=by rw[ST.out];exact ZU hsl
   clear hsn;generalize(hb.take k).foldl uk s0=st at*;clear ST;generalize(hb[k]'aA).name.length=nl at*;generalize(hb[k]'aA).Q=Q at*;generalize(hb[k]'aA).cl=cl at*;go_wp2_with(refine rF (.load 160 (.tmp 58)) I ?_;go_must(refine sr I 160 (.tmp 58) I ba (oa+k*3) I [.slice An nl cn,.int .i64 Q,.int .i64 cl] hRk _ underlying160 I xS ?_));have bo:Below wr.heap.size wr (wr.alloc (.cells #[.slice An nl cn,.int .i64 Q,.int .i64 cl] 160)):=fZ;refine(RC.out _ (Wr.G bo) (rC HBr HBr.size bo) (Nat.le_trans rH bo.size)).mono ?_;rintro _ w5 ⟨rfl,W5,K5⟩;have K5':=(Kr.trans (tC.Bc bo rH)).trans K5;clear RC K5 bo rH Wr Kr HBr hRk;have RM:=J (Qe w2.heap.size gw sn.1 p sn.2 0 w5 W5 amd);by_cases h5:65535<sn.1.length
   ·obtain⟨rfl,rfl⟩:=RL.out (Nat.lt_of_lt_of_le h5 LN.out);rw[if_pos ⟨I,h5⟩]at RM;go_wp2_with fail;refine RM.out.mono ?_;rintro _ w6 ⟨rfl,rfl⟩;clear RM h5 LN;go_wp2_with fail;go_ret2;exact rW.mk I (HB2.trans (K5'.1.mono HB2.size))
   ·
    rw[if_neg (fun h=>h5 h.2)]at RM;go_wp2_with fail;refine RM.out.mono ?_;rintro _ w6 ⟨rfl,rfl⟩;clear RM LN;go_wp2_with fail;go_roundw
    case rel=>exact⟨k+1,Y,fQ,by rw[HSN.out];omega,by rw[HSN.out];exact W5,K5'⟩
    case measure=>simp[intOf];omega
  obtain rfl:k=hb.length:=Y;have h1:¬(hb.length:Int)<hb.length:=Y;rw[FQ.out.done]at hsl Wr;have Br:=Kr.2 _ _ _ B2 K K;clear aA O FQ hq' QC L10;go_wp2_with(refine rF (.load 169 (.tmp 2)) I ?_;go_must(refine rG I _ _ I w.heap.size 0 I Br 14 Y _ underlying169 I tn cs (uH Y) ?_));refine(LI.out _).mono ?_;rintro _ wa ⟨rfl,ba⟩;replace Wr:=Wr.G ba;replace Kr:=Kr.trans (tC.Bc ba (Kr.size (Nat.le_refl _)));clear Br ba LI;have I0:∀w:World,(Instr.index 218 (.agg #[.slice Aa LA.length ca,.slice Au LU.length cu,.slice Ae LE.length ce]) (.int .i64 0)).run prog w= .ok (.slice Aa LA.length ca) w:=fun _=>by kernel_rfl
  have I1:∀w:World,(Instr.index 218 (.agg #[.slice Aa LA.length ca,.slice Au LU.length cu,.slice Ae LE.length ce]) (.int .i64 1)).run prog w= .ok (.slice Au LU.length cu) w:=fun _=>by kernel_rfl
  have I2:∀w:World,(Instr.index 218 (.agg #[.slice Aa LA.length ca,.slice Au LU.length cu,.slice Ae LE.length ce]) (.int .i64 2)).run prog w= .ok (.slice Ae LE.length ce) w:=fun _=>by kernel_rfl
  go_wp2_with fail;refine wp_loop_rounds 4 ?_;rw[rounds_succ];go_wp2_with fail;go_loopw[74] (fun iv wr=>∃k:Nat,k<=LA.length/\iv= .int .i64 k/\((LA.take k).foldl r7 s1).1.length<=65535/\xq w2.heap.size wr gw ((LA.take k).foldl r7 s1).1 p ((LA.take k).foldl r7 s1).2/\tC w2.heap.size w2 wr) (fun iv _=>LA.length-(intOf iv).toNat)
  case atStart=>exact⟨0,Nat.zero_le _,I,hsl,Wr,Kr⟩
  clear hsl Wr Kr;obtain⟨k,O,rfl,hsl,Wr,Kr⟩:=hrel;by_cases aA:k<LA.length
  case pos=>
   have h1:(k:Int)<LA.length:=Y;obtain⟨ba,oa,hA,hba,hel⟩:=ha Y;subst hA;obtain⟨ck,hrg,hRR⟩:=hel k aA;have HBr:ao w wr:=iW;have hRk:=rN hrg HBr hba;have ckl:=hRR.len;have hwf:=hRR.wf;have ck1:=J hRR.one;have rH:=Kr.size (Nat.le_refl _);have ST:=J ((FA).out.step k aA);have LN:=J ((FA).out.len (k+1));have FW:=(FA).out.few k;have RC:=J (fun w' (hW:xq w2.heap.size w' gw ((LA.take k).foldl r7 s1).1 p ((LA.take k).foldl r7 s1).2) (Z:ao w w') (rH:w2.heap.size<=w'.heap.size)=>Cu w2.heap.size gw ((LA.take k).foldl r7 s1) p ck LA[k] w w' hW hRR HB2.size Z rH Y (FW.mono Y) ((AC).out k aA));rw[<-ST.out]at RC;clear hel hrg hRR FW;obtain⟨sn,hsn⟩:∃sn,sn=(LA.take (k+1)).foldl r7 s1:=gh;rw[<-hsn]at RC ST LN;have HSN:=J hsn.symm;have amd:sn.1.length<=10000000:=by rw[ST.out];exact DX hsl hwf ((AC).out k aA)
   clear hsn;generalize(LA.take k).foldl r7 s1=st at*;exact mx
  obtain rfl:k=LA.length:=Y;have h1:¬(LA.length:Int)<LA.length:=Y;rw[(FA).out.done]at hsl Wr;clear aA O FA ha AC;go_wp2_with fail;rw[rounds_succ];go_wp2_with fail;go_loopw[74] (fun iv wr=>∃k:Nat,k<=LU.length/\iv= .int .i64 k/\((LU.take k).foldl r7 s2).1.length<=65535/\xq w2.heap.size wr gw ((LU.take k).foldl r7 s2).1 p ((LU.take k).foldl r7 s2).2/\tC w2.heap.size w2 wr) (fun iv _=>LU.length-(intOf iv).toNat)
  case atStart=>exact⟨0,Nat.zero_le _,I,hsl,Wr,Kr⟩
  clear hsl Wr Kr;obtain⟨k,O,rfl,hsl,Wr,Kr⟩:=hrel;by_cases aA:k<LU.length
  case pos=>
   have h1:(k:Int)<LU.length:=Y;obtain⟨ba,oa,hA,hba,hel⟩:=hu Y;subst hA;obtain⟨ck,hrg,hRR⟩:=hel k aA;have HBr:ao w wr:=iW;have hRk:=rN hrg HBr hba;have ckl:=hRR.len;have hwf:=hRR.wf;have ck1:=J hRR.one;have rH:=Kr.size (Nat.le_refl _);have ST:=J ((FU).out.step k aA);have LN:=J ((FU).out.len (k+1));have FW:=(FU).out.few k;have RC:=J (fun w' (hW:xq w2.heap.size w' gw ((LU.take k).foldl r7 s2).1 p ((LU.take k).foldl r7 s2).2) (Z:ao w w') (rH:w2.heap.size<=w'.heap.size)=>Cu w2.heap.size gw ((LU.take k).foldl r7 s2) p ck LU[k] w w' hW hRR HB2.size Z rH Y (FW.mono Y) ((UC).out k aA));rw[<-ST.out]at RC;clear hel hrg hRR FW;obtain⟨sn,hsn⟩:∃sn,sn=(LU.take (k+1)).foldl r7 s2:=gh;rw[<-hsn]at RC ST LN;have HSN:=J hsn.symm;have amd:sn.1.length<=10000000:=by rw[ST.out];exact DX hsl hwf ((UC).out k aA)
   clear hsn;generalize(LU.take k).foldl r7 s2=st at*;exact mx
  obtain rfl:k=LU.length:=Y;have h1:¬(LU.length:Int)<LU.length:=Y;rw[(FU).out.done]at hsl Wr;clear aA O FU hu UC;go_wp2_with fail;rw[rounds_succ];go_wp2_with fail;go_loopw[74] (fun iv wr=>∃k:Nat,k<=LE.length/\iv= .int .i64 k/\((LE.take k).foldl r7 s3).1.length<=65535/\xq w2.heap.size wr gw ((LE.take k).foldl r7 s3).1 p ((LE.take k).foldl r7 s3).2/\tC w2.heap.size w2 wr) (fun iv _=>LE.length-(intOf iv).toNat)
  case atStart=>exact⟨0,Nat.zero_le _,I,hsl,Wr,Kr⟩
  clear hsl Wr Kr;obtain⟨k,O,rfl,hsl,Wr,Kr⟩:=hrel;by_cases aA:k<LE.length
  case pos=>
   have h1:(k:Int)<LE.length:=Y;obtain⟨ba,oa,hA,hba,hel⟩:=he Y;subst hA;obtain⟨ck,hrg,hRR⟩:=hel k aA;have HBr:ao w wr:=iW;have hRk:=rN hrg HBr hba;have ckl:=hRR.len;have hwf:=hRR.wf;have ck1:=J hRR.one;have rH:=Kr.size (Nat.le_refl _);have ST:=J ((FE).out.step k aA);have LN:=J ((FE).out.len (k+1));have FW:=(FE).out.few k;have RC:=J (fun w' (hW:xq w2.heap.size w' gw ((LE.take k).foldl r7 s3).1 p ((LE.take k).foldl r7 s3).2) (Z:ao w w') (rH:w2.heap.size<=w'.heap.size)=>Cu w2.heap.size gw ((LE.take k).foldl r7 s3) p ck LE[k] w w' hW hRR HB2.size Z rH Y (FW.mono Y) ((EC).out k aA));rw[<-ST.out]at RC;clear hel hrg hRR FW;obtain⟨sn,hsn⟩:∃sn,sn=(LE.take (k+1)).foldl r7 s3:=gh;rw[<-hsn]at RC ST LN;have HSN:=J hsn.symm;have amd:sn.1.length<=10000000:=by rw[ST.out];exact DX hsl hwf ((EC).out k aA)
   clear hsn;generalize(LE.take k).foldl r7 s3=st at*;exact mx
  obtain rfl:k=LE.length:=Y;have h1:¬(LE.length:Int)<LE.length:=Y;rw[(FE).out.done]at hsl Wr;clear aA O FE he EC;go_wp2_with fail;rw[rounds_succ];obtain⟨rfl,rfl⟩:=RO.out Y;clear RO RL I0 I1 I2;obtain⟨A',c',U,F,h3,h4⟩:=Wr;have c0:=F.rD 0 I;have CV:=h3.str;go_wp2_with fail;go_ret2;exact rW.mk I (HB2.trans (Kr.1.mono HB2.size))
theorem QB(cs:List Value)(m:tq)(pack:Bool)(Aq Aa Au Ae:Option Addr)(cq ca cu ce:Nat)(w:World)(h:Ct w cs m Aq Aa Au Ae cq ca cu ce)(hq:m.qs.length<=700)(hr:m.Em.length<=400):
  Calls prog 113 #[.agg cs.toArray,.bool pack] w (rW (.tuple #[.string (bs (tM m pack).1),.int .i64 (tM m pack).2]) w):=by
 by_cases hc:uf m=0
 ·exact N0 cs m pack Aq Aa Au Ae cq ca cu ce w h hc hq hr
 ·rw[I6 pack hc];exact QA cs m pack Aq Aa Au Ae cq ca cu ce w h hc
end Go.Proofs.YtakkipnmpmobbaaGreat
