/-
  Layer 34,the law's own:HostEnds.
-/
import Derived.Test.YtakkipnmpmobbaaGreatLFq
namespace Go.Proofs.YtakkipnmpmobbaaGreat
open _root_.Go.Proofs.Tryz
set_option maxHeartbeats 8000000
open Go.RowKit
set_option maxRecDepth 100000
set_option linter.unusedVariables false
set_option linter.unusedSimpArgs false
theorem ael(a d:Int)(v1 v2:Value)(W:World):(Instr.field 50 (.agg [Value.int .i64 a,v1,v2,.int .i64 d].toArray) 0).run prog W= .ok (.int .i64 a) W:=by kernel_rfl
theorem agq:(prog.info? 58).map (·.size)=some 17:=by kernel_rfl
theorem Ph(Ah As Asv Ad:Option Addr)(ch cS csv cd:Nat)(cs:List Value)(r:Rs)(hs:List xC)(ss:List Src)(vs:List He)(s:List UInt8)(fam turn:Int)(ds:List Int)(Ae:Option Addr)(ce:Nat)(l:List Ev)(w:World)(h:yc w cs r)(hH:wH w 19 (yY w) Ah hs)(hSr:wH w 5 uK As ss)(hSv:wH w 3 wG Asv vs)(hhl:hs.length<=17592186044416)(hsl:ss.length<=17592186044416)(hvl:vs.length<=17592186044416)(hD:aa7 w Ad ds)(hE:Ru w Ae l)(hEl:l.length<=17592186044416):
  Calls prog 4 #[.agg (Fu (cs++[Value.slice Ah hs.length ch,Value.slice As ss.length cS,Value.slice Asv vs.length csv]) s fam turn (.slice Ad ds.length cd)).toArray,.slice Ae l.length ce] w (rW (.bool true) w):=by
 have hcl:=h.len;have aiE:(cs++[Value.slice Ah hs.length ch,Value.slice As ss.length cS,Value.slice Asv vs.length csv]).length=13:=ko;have aCo:(cs++[Value.slice Ah hs.length ch,Value.slice As ss.length cS,Value.slice Asv vs.length csv]).take 10=cs:=List.take_left' hcl;obtain⟨hLl,L0,L13,L14,L15,L16⟩:=Wd (s:=s) (fam:=fam) (turn:=turn) (vl:=.slice Ad ds.length cd) aiE;have HRS:=Lib.hid h;have HHH:=J (fun V (hV:ao w V)=>(hH.mono hV (fun _ x ⟨A,c,U,F,h3⟩=>(⟨A,c,U,F,xA h3 hV⟩:yY V _ x))));have HH0:=J hH;have HSS:=J hSr;have HSV:=J hSv;have HDR:=J hD;have HEV:=J hE;have SM:=J (fun V (hV:ao w V)=>Sy (ch:=ch) (cS:=cS) (csv:=csv) (Ad:=Ad) (cd:=cd) (As:=As) V (cs:=cs) (r:=r) (by
  obtain⟨A1,c1,A2,c2,A3,c3,h0,U,F,h3,l1,l2,l3⟩:=h;exact(⟨A1,c1,A2,c2,A3,c3,h0,U.mono hV (fun _ _ h=>h),xA F hV,h3.mono hV (fun _ _ h=>h),l1,l2,l3⟩:yc V cs r)) (HHH.out V hV) (hSv.mono hV (fun _ _ x=>x)) hhl hsl hvl s fam turn ds.length)
 unfold We at SM;have FE:=J (fun w' (b:ao w w')=>XU Ae ce l 60 w' (hE.G b) hEl);have RH:=J (fun V (hV:ao w V) (q1:hs.length<=100) (q2:∀h∈hs,h.ns.length<=100) (q3:vs.length<=1000)=>Ns (w0:=w) (ch:=ch) (cS:=cS) (csv:=csv) V (cs:=cs) (r:=r) (by
  obtain⟨A1,c1,A2,c2,A3,c3,h0,U,F,h3,l1,l2,l3⟩:=h;exact(⟨A1,c1,A2,c2,A3,c3,h0,U.mono hV (fun _ _ h=>h),xA F hV,h3.mono hV (fun _ _ h=>h),l1,l2,l3⟩:yc V cs r)) hV hH q1 q2 hSr hsl hSv q3)
 have XN:=J (fun V gl b (hV:ao w V) (q1:hs.length<=100) (q2:∀h∈hs,h.ns.length<=100) (q3:vs.length<=1000) (q4:s.length<=1000000) (q5:ds.length<=17592186044416) (E:sE V gl ⟨ds,0⟩) (h0:w.heap.size<=b) (Z:b<=V.heap.size) (hbg:b<=gl)=>abS (ch:=ch) (cS:=cS) (csv:=csv) (fam:=fam) (turn:=turn) (h.XA hV) hV hH q1 q2 hSr hsl hSv q3 q4 E I q5 h0 Z hbg);unfold abN at RH;unfold Ft at XN;clear h hH hSr hSv hD hE hcl;generalize(cs++[Value.slice Ah hs.length ch,Value.slice As ss.length cS,Value.slice Asv vs.length csv])=CS at*;have af0:(Fu CS s fam turn (.slice Ad ds.length cd)).take 10=cs:=by have:=congrArg (List.take 10) L0;rw[List.take_take,aCo]at this;exact this
 obtain⟨TL,hTL⟩:∃TL,Fu CS s fam turn (.slice Ad ds.length cd)=TL:=gh;rw[hTL]at hLl L0 L13 L14 L15 L16 SM af0⊢;have aDz:=J af0;clear af0;have hB:Below w.heap.size w (w.alloc (.cells TL.toArray 58)):=fZ;have Hh:=N.new w 58 TL;clear hTL;go_enter func4,ntmps4;go_wp2_with fail;refine(yH _).mono ?_;rintro _ B ⟨rfl,b1⟩;have B1:=Hh.G b1 Hh.lt;have H1:=rC hB hB.size b1;clear Hh hB b1;go_wp2_with(refine rF (.load 58 (.tmp 2)) I ?_;go_must(refine vR 58 (.tmp 2) I bc w.heap.size 0 I B1 17 Y _ underlying58 I agq TL (uH Y) ?_));refine(SM.out _ H1).mono ?_;rintro _ w2 ⟨b,rfl,hsm,b2⟩;have B2:=B1.G b2 B1.lt;have H2:=rC H1 H1.size b2;have HSM:=J hsm;clear B1 H1 b2 SM hsm;cases b with
 |false=>clear FE;go_wp2_with fail;refine(yH _).mono ?_;rintro _ w3 ⟨rfl,b3⟩;go_wp2_with fail;go_ret;exact rW.mk I (rC H2 H2.size b3)
 |true=>
 obtain⟨⟨f1,f2,f3,f4⟩,f5,f6⟩:=HSM.out I;have HF4:=J f4;clear HSM f4;go_wp2_with fail;refine(FE.out _ H2).mono ?_;rintro _ w3 ⟨b,rfl,hfe,b3⟩;have B3:=B2.G b3 B2.lt;have H3:=rC H2 H2.size b3;have HFE:=J hfe;clear B2 H2 b3 FE hfe;cases b with
 |false=>go_wp2_with fail;refine(yH _).mono ?_;rintro _ w4 ⟨rfl,b4⟩;go_wp2_with fail;go_ret;exact rW.mk I (rC H3 H3.size b4)
 |true=>
 obtain⟨aLx,aKR⟩:=HFE.out I;clear HFE;go_wp2_with(refine rF (.load 33 (.tmp 28)) I ?_;go_must(refine rG I _ _ I w.heap.size 0 I B3 13 Y _ underlying33 I xv CS fH ?_));refine(RH.out w3 H3 Y (fun h hm=>by have:=HF4.out h hm;omega) Y).mono ?_;rintro _ w4 ⟨c2,v1,v2,v3,rfl,hc2,hO1,hO2,⟨A9,n9,c9,rfl⟩,alL,b4⟩;obtain⟨A7,c7,rfl⟩:=hO1.form;obtain⟨A8,c8,rfl⟩:=hO2.form;have hs8:=Ds ss;obtain⟨nS,hnS⟩:=aq ((sP ss).length);rw[hnS.out]at hs8⊢;have B4:=B3.G b4 B3.lt;have H4:=rC H3 H3.size b4;have Y4:=N.new w4 33 Nq;have k4:Below w4.heap.size w4 (w4.alloc (.cells Nq.toArray 33)):=fZ;obtain⟨HC,hHC⟩:=aq (c2++[.slice A7 (tI hs).length c7,.slice A8 nS c8,.slice A9 n9 c9]);have hHl:HC.length=13:=by rw[<-hHC.out];simp[hc2]
 have hH1:∀u∈HC,u.oneCell'=true:=by
  rw[<-hHC.out];intro u hu;rcases List.mem_append.1 hu with hu|hu
  ·exact alL u hu
  ·simp only[List.mem_cons,List.not_mem_nil,or_false]at hu;rcases hu with rfl|rfl|rfl<;>rfl
 have avT:HC[11]?=some (.slice A8 nS c8):=by rw[<-hHC.out,List.getElem?_append_right Y,hc2];rfl
 rw[hHC.out];clear hHC hO1 hO2 alL B3 H3 b4 hc2 RH;go_wp2_with(refine rF (.store 33 (.tmp 5) (.tmp 30)) I (ab I w4.heap.size 0 HC Y4 (by rw[hHl];exact Nat.le_refl 13) (by rw[hHl];exact xv) hH1 ?_));intro w5 X5 g5 sw;clear sw;have C5:N w5 w4.heap.size 33 HC:=tH (M:=Nq) (n:=13) (by simpa[hHl]using X5) K;have k5:=rE k4 g5 k4.size (Nat.le_refl _);have B5:=B4.G k5 B4.lt;have H5:=rC H4 H4.size k5;obtain⟨gH,hgH⟩:=aq w4.heap.size;rw[hgH.out]at C5⊢;have HC5:=J C5;have axi:=J avT;clear X5 g5 k4 Y4 B4 H4 k5 hH1 avT C5;have LN:=J (fun V (hV:ao w V)=>EP Ad cd ds V (fun hp=>by obtain⟨b,off,U,F,h3⟩:=HDR.out hp;exact⟨b,off,U,rN h3 hV F⟩) Y);have LC:Hid (∀V,ao w5 V->(Instr.loadAt 33 (.pointer (some ⟨w.heap.size,0,none⟩))).run prog V= .ok (.agg CS.toArray) V):=J (fun V hV=>(B5.G hV B5.lt).tW 33 0 13 Y _ underlying33 I xv _ fH);have LS:Hid (∀V,ao w5 V->(Instr.loadAt 9 (.pointer (some ⟨w.heap.size,13,none⟩))).run prog V= .ok (.string (bs s)) V):=J (fun V hV=>rQ underlying9 I ((B5.G hV B5.lt).rD 13 L13));have LK:Hid (∀V,ao w5 V->(Instr.loadAt 3 (.pointer (some ⟨w.heap.size,14,none⟩))).run prog V= .ok (.int .i64 fam) V):=J (fun V hV=>rQ underlying3 I ((B5.G hV B5.lt).rD 14 L14));have LT:Hid (∀V,ao w5 V->(Instr.loadAt 3 (.pointer (some ⟨w.heap.size,15,none⟩))).run prog V= .ok (.int .i64 turn) V):=J (fun V hV=>rQ underlying3 I ((B5.G hV B5.lt).rD 15 L15));have LD:Hid (∀V,ao w5 V->(Instr.loadAt 56 (.pointer (some ⟨w.heap.size,16,none⟩))).run prog V= .ok (.slice Ad ds.length cd) V):=J (fun V hV=>rQ underlying56 I ((B5.G hV B5.lt).rD 16 L16));have HL0:=J L0;have aDX:=J L13;clear L0 L13 L14 L15 L16;obtain⟨b,Z⟩:=aq w5.heap.size;have XN1:=J (fun V gl (hV:ao w5 V) (E:sE V gl ⟨ds,0⟩) (hbg:w5.heap.size<=gl)=>XN.out V gl w5.heap.size (rC H5 H5.size hV) Y (fun h hm=>by have:=HF4.out h hm;omega) Y Y Y E H5.size hV.size hbg);unfold HnQ at XN1;clear XN;go_upto_region 4 with fail;go_cut[6,7] (fun v6 v7 wx=>∃g gl A n c,v6= .pointer (some ⟨g,0,none⟩)/\v7= .slice A n c/\ao w5 wx/\Hid ((∀n d,parse s= .ok (n,d)->n=[])/\n=0/\(∃D c,Sn w wx w5.heap.size g gl D c 0/\c.r0=3/\c.r6=0)\/∃n d D,parse s= .ok (n,d)/\n≠[]/\KS D/\D.ss=sP ss/\D.r=rT r/\GF w wx w5.heap.size g gl D 0 0 0))
 case first=>
  refine wp_region_held_drew (S:=fun V=>ao w5 V) (by kernel_rfl) (Below.refl _ _).drew (fun hS=>?_);refine rS hS 10 [0,1,2,3,4,5,6,7,8,9] I (by kernel_rfl) (fun _ _ _ _ _ h=>h) I I ?_
  (refine ak (.pointer (some ⟨w.heap.size,0,none⟩)) ?_;simp only[X])
  (refine aj _ I I (fun V hV=>(rX 33 (.tmp 32) ⟨w.heap.size,0,none⟩ I I (LC.out V hV))) ?_;simp only[X])
  (refine ak (.pointer (some ⟨w.heap.size,13,none⟩)) ?_;simp only[X])
  (refine aj _ I I (fun V hV=>(rX 9 (.tmp 34) ⟨w.heap.size,13,none⟩ I I (LS.out V hV))) ?_;simp only[X])
  (refine ak (.pointer (some ⟨w.heap.size,14,none⟩)) ?_;simp only[X])
  (refine aj _ I I (fun V hV=>(rX 3 (.tmp 36) ⟨w.heap.size,14,none⟩ I I (LK.out V hV))) ?_;simp only[X])
  (refine ak (.pointer (some ⟨w.heap.size,15,none⟩)) ?_;simp only[X])
  (refine aj _ I I (fun V hV=>(rX 3 (.tmp 38) ⟨w.heap.size,15,none⟩ I I (LT.out V hV))) ?_;simp only[X])
  (refine ak (.pointer (some ⟨w.heap.size,16,none⟩)) ?_;simp only[X])
  (refine aj _ I I (fun V hV=>(rX 56 (.tmp 40) ⟨w.heap.size,16,none⟩ I I (LD.out V hV))) ?_;simp only[X])
  simp only[sS];refine su 10 (some 42) 13 #[.slice Ad ds.length cd] (by kernel_rfl) I I (by kernel_rfl) bc (LN.out _ (rC H5 H5.size hS)) ?_;rintro _ w6 ⟨gl,rfl,hLt,b6,hgl⟩;have hS6:=rC hS hS.size b6;refine⟨_,I,hS6,?_⟩;have avi:w5.heap.size<=gl:=Nat.le_trans hS.size hgl;clear hS b6 hgl;have hS:=hS6;clear hS6;simp only[X];refine su 11 (some 43) 11 #[.agg CS.toArray,.string (bs s),.int .i64 fam,.int .i64 turn,.pointer (some ⟨gl,0,none⟩)] (by kernel_rfl) I I (by kernel_rfl) bc (XN1.out _ gl hS hLt avi) ?_;rintro _ w7 ⟨g,v,rfl,⟨A,n,c,rfl⟩,hb7,hq⟩;have hS7:ao w5 w7:=hS.trans hb7;refine⟨_,I,hS7,?_⟩;have HQ:Hid ((∀n d,parse s= .ok (n,d)->n=[])/\n=0/\(∃D c,Sn w w7 w5.heap.size g gl D c 0/\c.r0=3/\c.r6=0)\/∃n d D,parse s= .ok (n,d)/\n≠[]/\KS D/\D.ss=sP ss/\D.r=rT r/\GF w w7 w5.heap.size g gl D 0 0 0):=J (by
   rcases hq with⟨U,F,h3⟩|F
   ·injection F with F h4 h5;exact .inl ⟨U,h4,h3⟩
   ·
    exact .inr F)
  clear hS avi hLt hb7 hq;have hS:=hS7;clear hS7;simp only[X];refine rS hS 5 [12,13,14,15,16] I (by kernel_rfl) (fun _ _ _ _ _ h=>h) I I ?_
  (refine ak (.tuple #[.pointer (some ⟨g,0,none⟩),.slice A n c]) ?_;simp only[X])
  (refine ak (.pointer (some ⟨g,0,none⟩)) ?_;simp only[X])
  (refine ak (.slice A n c) ?_;simp only[X])
  (refine ak (.pointer (some ⟨g,0,none⟩)) ?_;simp only[X])
  (refine ak (.slice A n c) ?_;simp only[X])
  simp only[sS];refine wpAnyH_done (by kernel_rfl) ?_ _;go_wp2_with fail;go_meet
  case rel=>exact⟨g,gl,A,n,c,I,I,hS,HQ⟩
 obtain⟨g,gl,A,n,c,rfl,rfl,hW6,HQ⟩:=hcut;obtain⟨w6,rfl⟩:∃w6,w6=wc:=gh;clear LC LK LT LD LN XN1;have PA:=J (fun V=>Pb s Y V);have BT6:=B5.G hW6 B5.lt;have d13:=BT6.rD 13 aDX.out;have H6:=rC H5 H5.size hW6;rcases HQ.out with⟨ajg,rfl,D,c1,hE1,hr0,hsn⟩|⟨nm,dt,D,hp,hl,HP,hDs,hDr,HRn⟩
 case inl=>
  have HE:=J hE1;have HR0:=J (And.intro hr0 hsn);have PA1:Hid (∀V,Calls prog 21 #[.string (bs s)] V (fun e V'=>∃A n c d k,e= .returned (.tuple #[.slice A n c,.bool d,.int .i64 k])/\ao V V'/\((k !=0)=true\/k=0/\n=0))):=J (fun V=>(PA.out V).mono (fun e V' hq=>by
   cases hps:parse s with
   |error k=>rw[hps]at hq;obtain⟨rfl,Z⟩:=hq;exact⟨none,0,0,false,k,I,Z,.inl (Sf hps)⟩
   |ok x=>
    obtain⟨n,d⟩:=x;rw[hps]at hq;obtain⟨v,rfl,ht,Z⟩:=hq;have hn:=ajg n d hps;subst hn;obtain⟨A,c,rfl,-,-⟩:=ht.form;exact⟨A,0,c,d,0,I,Z,.inr ⟨I,I⟩⟩))
  clear hE1 hr0 hsn PA HQ ajg;go_wp2_with fail;refine(PA1.out _).mono ?_;rintro _ w7 ⟨A2,n2,k2,d2,er,rfl,b7,O⟩;have hE7:=HE.out.yu (p:=fun _=>False) (b':=w5.heap.size) (Fr.G b7) (Nat.le_refl _) id id;obtain⟨T1,K1,-⟩:=hE7.rU.k;have DA:=J (xD K1);rw[hE7.dn]at DA;obtain⟨xs,hxs,hxl⟩:=hE7.rU.r1;have RA:=J (zL K1 hE7.dn hxs Y hE7.rU.eq.2.2.2.1);have SN:=J (fun V (hV:ao w7 V)=>Pg (K1.G hV) hE7.pp);rw[HR0.out.2]at SN;rw[HR0.out.1]at RA;have HO2:=J hE7.rU.eq.2.2.2.1;unfold Kn at RA;have H7:=J (rC H6 H6.size b7);clear PA1 HE HR0 hE7 K1 hxs b7 BT6 d13;rcases O with O|⟨rfl,rfl⟩
  ·exact mZ
  ·exact mZ
 rw[hp]at PA;unfold CY at PA;have aLc:((nm.length:Int)==0)=false:=by have:nm.length≠0:=lF;have:¬(nm.length:Int)=0:=Y;simpa using this
 have HRN:=J HRn;have HPD:=J HP;have HDS:=J hDs;have axm:=J hDr;clear HQ hp hl HP hDs hDr HRn;go_wp2_with fail;refine(PA.out _).mono ?_;rintro _ w7 ⟨v7,rfl,ht,b7⟩;obtain⟨A2,k2,rfl,-,-⟩:=ht.form;have HR7:=J (HRN.out.G hW6.size b7);have HW7:=rC hW6 hW6.size b7;clear PA ht b7 HRN hW6 H6 BT6 d13;generalize nm.length=nn at*;go_wp2_with fail;have H5':=J H5;have B5':=J B5;clear H5 B5;go_loopw[11] (fun iv wr=>∃k tk:Nat,k<=l.length/\iv= .int .i64 k/\Hid (GF w wr w5.heap.size g gl D k tk (BF (l.take k)))/\ao w5 wr) (fun iv _=>l.length-(intOf iv).toNat)
 case atStart=>exact⟨0,0,Nat.zero_le _,I,HR7,HW7⟩
 clear HR7 HW7;obtain⟨k,tk,O,rfl,HR,HW⟩:=hrel;have HBw:ao w wr:=rC H5'.out H5'.out.size HW;have hbw:w5.heap.size<=wr.heap.size:=HW.size;by_cases aA:k<l.length
 case pos=>
  have h1:(k:Int)<l.length:=Y;obtain⟨ba,oa,hA1,la1,ra,rB,apn⟩:=HEV.out.rU k aA;have hT:=ML l k aA;have hT2:=ada l (k+1);have hel:(vA l[k]).length=22:=yX rB;have re:=rN ra HBw la1;have HC:=J (HR.out.OG HPD.out Y hbw l[k] rB Y);rw[<-hT]at HC;subst hA1;unfold abQ at HC;clear hT hT2 ra apn HR;generalize(tk+if l[k].kind=1 then 1 else 0)=tk2 at*;generalize vA l[k]=ek at*;go_wp2_with(refine rF (.load 69 (.tmp 89)) I ?_;go_must(refine sr I 69 (.tmp 89) I ba (oa+k*22) I ek re _ underlying69 I (by rw[hel];exact MJ) ?_));refine HC.out.mono ?_;rintro _ w8 ⟨v8,rfl,hR8,b8⟩;have HR8:=J hR8;have H8:ao w5 w8:=HW.trans b8;clear HC hR8 b8 HW HBw re;go_wp2_with fail;go_roundw
  case rel=>exact⟨k+1,tk2,Y,fQ,HR8,H8⟩
  case measure=>simp[intOf];omega
 have h1:¬(k:Int)<l.length:=Y;obtain rfl:k=l.length:=Y;rw[List.take_length]at HR;have hT1:=(Ff r).1;have TK:=J (fun V (hV:ao wr V)=>XH w cs r V HRS.out (rC HBw HBw.size hV));obtain⟨T,hT⟩:=aq (sm r);rw[hT.out]at hT1 TK;have BT:=B5'.out.G HW B5'.out.lt;have CT:=HC5.out.G HW HC5.out.lt;have LRS:Hid (∀V,ao wr V->(Instr.loadAt 29 (.pointer (some ⟨w.heap.size,0,none⟩))).run prog V= .ok (.agg cs.toArray) V):=J (fun V hV=>(BT.G hV BT.lt).tW 29 0 10 Y _ underlying29 I wE _ fI);have LHS:Hid (∀V,ao wr V->(Instr.loadAt 30 (.pointer (some ⟨gH,11,none⟩))).run prog V= .ok (.slice A8 nS c8) V):=J (fun V hV=>rQ underlying30 I ((CT.G hV CT.lt).rD 11 axi.out));have HWr:=J HW;clear BT CT HW;go_wp2_with fail;refine vp (by kernel_rfl) (by kernel_rfl) ?_
 (refine rK (v:=(.pointer (some ⟨w.heap.size,0,none⟩))) I (fun W hW=>by first|(go_simp;done)|(go_simp;omega)) ?_;simp only[X])
 (refine rK (v:=(.pointer (some ⟨w.heap.size,0,none⟩))) I (fun W hW=>by first|(go_simp;done)|(go_simp;omega)) ?_;simp only[X])
 refine tE (v:=.agg cs.toArray) 29 (.tmp 93) I ⟨w.heap.size,0,none⟩ I I (fun V hV=>LRS.out V hV) ?_;simp only[X];refine tL (v:=.int .i64 T) 23 #[.agg cs.toArray] I (fun W=>by go_simp) (fun W hW=>rW.Bc hW (TK.out W hW)) ?_;simp only[X];refine rK (v:=.int .i64 (14*(T:Int))) I (fun W hW=>by go_simp;exact IntWalk.i64_in _ Y) ?_;simp only[X]
 (refine rK (v:=(.pointer (some ⟨gH,11,none⟩))) I (fun W hW=>by first|(go_simp;done)|(go_simp;omega)) ?_;simp only[X])
 refine tE (v:=.slice A8 nS c8) 30 (.tmp 97) I ⟨gH,11,none⟩ I I (fun V hV=>LHS.out V hV) ?_;simp only[X]
 (refine rK (v:=(.int .i64 nS)) I (fun W hW=>by first|(go_simp;done)|(go_simp;omega)) ?_;simp only[X])
 obtain⟨M,hM⟩:=aq (14*T*nS);have hMi:(14*(T:Int))*(nS:Int)=(M:Int):=by rw[<-hM.out];push_cast;rfl
 have hM8:M<=151200:=by rw[<-hM.out];exact Nat.le_trans (Nat.mul_le_mul_left _ hs8.2) Y
 refine rK (v:=.int .i64 (M:Int)) I (fun W hW=>by go_simp;exact IntWalk.i64_in _ Y) ?_;simp only[X]
 (refine rK (v:=(.int .i64 (M:Int))) I (fun W hW=>by first|(go_simp;done)|(go_simp;omega)) ?_;simp only[X])
 refine wpQuiet_nil ?_;intro w9 b9;have HR9:=J (HR.out.G hbw b9);have HW9:ao w5 w9:=rC HWr.out hbw b9;have EB:=J (fun V=>adf V);have ez:(vA ⟨1,sg.zero,0,0,[]⟩:List Value)=vA JT:=rfl;rw[ez]at EB;clear HR HWr b9 HBw hbw TK LRS LHS hMi aA h1;have hDM:Hid (14*sm D.r*D.ss.length=M):=J (by rw[axm.out,El,hT.out,HDS.out,hnS.out];exact hM.out);go_upto_block 2 with fail;go_cut[] (fun wx=>∃c n,1<=n/\Hid (Sn w wx w5.heap.size g gl D c n)/\Hid (ao w5 wx))
 case first=>
  go_wp2_with fail;go_loopw[13] (fun iv wx=>∃j tk:Nat,j<=M/\j<=tk/\iv= .int .i64 j/\Hid (GF w wx w5.heap.size g gl D (l.length+j) tk (BF l))/\ao w5 wx) (fun iv _=>M-(intOf iv).toNat)
  case atStart=>exact⟨0,tk,Nat.zero_le _,Nat.zero_le _,I,HR9,HW9⟩
  clear HR9 HW9;obtain⟨j,tk,hj,htk,rfl,HR,HW⟩:=hrel;have hbw:w5.heap.size<=wr.heap.size:=HW.size;by_cases aA:j<M
  case pos=>
   have h1:(j:Int)<M:=Y;have DN:=J (HR.out.afj HPD.out);unfold abR at DN;have HWx:=J HW;clear HW;go_wp2_with fail;refine DN.out.mono ?_;rintro _ w10 ⟨rfl,⟨rfl,c1,n1,hn1,hE1⟩|⟨rfl,-⟩⟩
   ·have HE1:=J hE1;clear DN HR hE1;exact qL
   ·
    have HC:=J (HR.out.OG HPD.out Y hbw JT I (by show BF l+0<=8796093022208;omega));rw[show(tk+if JT.kind=1 then 1 else 0)=tk+1 from I,show BF l+JT.data.length=BF l from I]at HC;unfold abQ at HC;clear HR DN;generalize vA JT=ek at*;go_wp2_with(refine rF (.build 69 #[(0,.const (.int .i64 1))]) I ?_;go_must(refine sy I 69 _ I #[(0,.int .i64 1)] cY (EB.out _) ?_));refine HC.out.mono ?_;rintro _ w11 ⟨v11,rfl,avF,b11⟩;have aDH:=J avF;have H11:ao w5 w11:=HWx.out.trans b11;clear HC avF b11 HWx;go_wp2_with fail;go_roundw
    case rel=>exact⟨j+1,tk+1,Y,Y,fQ,aDH,H11⟩
    case measure=>simp[intOf];omega
  have h1:¬(j:Int)<M:=Y;obtain⟨c1,n1,L1,hn1,hor⟩:=HR.out;rcases hor with hW1|hE1
  ·
   exfalso;have h3:=hW1.Sp;have h4:=hW1.nm.b7 HPD.out hn1;have h5:2*sm D.r*c1.bg<=2*sm D.r*(7*D.ss.length):=Nat.mul_le_mul_left _ h4;have h6:2*sm D.r*(7*D.ss.length)=14*sm D.r*D.ss.length:=by exact pd
   have h7:=hDM.out;omega
  have HE1:=J hE1;have HWx:=J HW;clear HR hE1 HW;exact qL
 obtain⟨c1,n1,hn1,HE1,HWc⟩:=hcut;obtain⟨w10,rfl⟩:∃w10,w10=wc:=gh;clear EB HR9 HW9;have hE:=HE1.out;obtain⟨T1,K1,-⟩:=hE.rU.k;obtain⟨xs,hxs,hxl⟩:=hE.rU.r1;have RA:=J (zL K1 hE.dn hxs Y hE.rU.eq.2.2.2.1);unfold Kn at RA;obtain⟨hv1,hv5⟩:=hE.vd;have CDN:Hid (∀V,ao w10 V->Calls prog 14 #[.pointer (some ⟨g,0,none⟩)] V (uQ (.bool true) V)):=J (fun V hV=>by
  have:=xD (K1.G hV);rwa[hE.dn]at this)
 have CSN:=J (fun V (hV:ao w10 V)=>Pg (K1.G hV) hE.pp);have hsn:=hE.sn;have hb7:=hE.nm.b7 HPD.out hn1;have hmo:=(Ff r).2;obtain⟨M2,hM2⟩:=aq (14*uD r*nS);have aMt:M2<=5040:=by rw[<-hM2.out];exact Nat.mul_le_mul (Nat.mul_le_mul_left 14 hmo) hs8.2
 have hsM:c1.r6<=M2:=by
  rw[axm.out,GB]at hsn;rw[HDS.out,hnS.out]at hb7;have h5:2*uD r*c1.bg<=2*uD r*(7*nS):=Nat.mul_le_mul_left _ hb7;have h6:2*uD r*(7*nS)=14*uD r*nS:=by exact pd
  have h7:=hM2.out;omega
 have MO:=J (fun V (hV:ao w V)=>Rg w cs r V HRS.out hV);generalize c1.r6=sn,c1.r0=vd at*;generalize uD r=mm at*;have F0:=J (fun v8 W=>ael vd c1.r3 v8 c1.r2 W);have BT:=B5'.out.G HWc.out B5'.out.lt;have CT:=HC5.out.G HWc.out HC5.out.lt;have H10:=rC H5'.out H5'.out.size HWc.out;clear hE K1 hxs hxl hsn hb7 HE1;go_wp2_with fail;refine RA.out.mono ?_;rintro _ w11 ⟨v11,rfl,aCe,b11⟩;have LRS:Hid (∀V,ao w11 V->(Instr.loadAt 29 (.pointer (some ⟨w.heap.size,0,none⟩))).run prog V= .ok (.agg cs.toArray) V):=J (fun V hV=>(BT.G (rC b11 b11.size hV) BT.lt).tW 29 0 10 Y _ underlying29 I wE _ fI);have LHS:Hid (∀V,ao w11 V->(Instr.loadAt 30 (.pointer (some ⟨gH,11,none⟩))).run prog V= .ok (.slice A8 nS c8) V):=J (fun V hV=>rQ underlying30 I ((CT.G (rC b11 b11.size hV) CT.lt).rD 11 axi.out));have aEc:=J (fun V (hV:ao w11 V)=>CDN.out V (rC b11 b11.size hV));have aEa:=J (fun V (hV:ao w11 V)=>CSN.out V (rC b11 b11.size hV));have apJ:=rC H10 H10.size b11;have CMO:=J (fun V (hV:ao w11 V)=>MO.out V (rC apJ apJ.size hV));have H11:=J apJ;have hmm:(14*(mm:Int))*(nS:Int)=(M2:Int):=by rw[<-hM2.out];push_cast;rfl
 clear RA CDN CSN MO BT CT H10 apJ b11 aCe;go_wp2_with(refine rF (.field 50 (.tmp 115) 0) I ?_;go_must(refine zw (v:=.int .i64 vd) bc (AO 50 (.tmp 115) 0 I I (F0.out _ _)) ?_));refine vp (by kernel_rfl) (by kernel_rfl) ?_
 (refine rK (v:=(.pointer (some ⟨g,0,none⟩))) I (fun W hW=>by first|(go_simp;done)|(go_simp;omega)) ?_;simp only[X])
 refine tL (v:=.bool true) 14 #[.pointer (some ⟨g,0,none⟩)] I (fun W=>by go_simp) (fun W hW=>uQ.Bc hW (aEc.out W hW)) ?_;simp only[X]
 (refine rK (v:=(.bool true)) I (fun W hW=>by first|(go_simp;done)|(go_simp;omega)) ?_;simp only[X])
 (refine rK (v:=(.int .i64 vd)) I (fun W hW=>by first|(go_simp;done)|(go_simp;omega)) ?_;simp only[X])
 (refine rK (v:=(.bool true)) I (fun W hW=>by first|(go_simp;done)|(go_simp;omega)) ?_;simp only[X])
 (refine rK (v:=(.bool true)) I (fun W hW=>by first|(go_simp;done)|(go_simp;omega)) ?_;simp only[X])
 (refine rK (v:=(.bool true)) I (fun W hW=>by first|(go_simp;done)|(go_simp;omega)) ?_;simp only[X])
 (refine rK (v:=(.int .i64 vd)) I (fun W hW=>by first|(go_simp;done)|(go_simp;omega)) ?_;simp only[X])
 (refine rK (v:=(.bool true)) I (fun W hW=>by first|(go_simp;done)|(go_simp;omega)) ?_;simp only[X])
 (refine rK (v:=(.bool true)) I (fun W hW=>by first|(go_simp;done)|(go_simp;omega)) ?_;simp only[X])
 (refine rK (v:=(.bool true)) I (fun W hW=>by first|(go_simp;done)|(go_simp;omega)) ?_;simp only[X])
 (refine rK (v:=(.pointer (some ⟨g,0,none⟩))) I (fun W hW=>by first|(go_simp;done)|(go_simp;omega)) ?_;simp only[X])
 refine tL (v:=.int .i64 sn) 16 #[.pointer (some ⟨g,0,none⟩)] I (fun W=>by go_simp) (fun W hW=>uQ.Bc hW (aEa.out W hW)) ?_;simp only[X]
 (refine rK (v:=(.pointer (some ⟨w.heap.size,0,none⟩))) I (fun W hW=>by first|(go_simp;done)|(go_simp;omega)) ?_;simp only[X])
 (refine rK (v:=(.pointer (some ⟨w.heap.size,0,none⟩))) I (fun W hW=>by first|(go_simp;done)|(go_simp;omega)) ?_;simp only[X])
 refine tE (v:=.agg cs.toArray) 29 (.tmp 131) I ⟨w.heap.size,0,none⟩ I I (fun V hV=>LRS.out V hV) ?_;simp only[X];refine tL (v:=.int .i64 mm) 24 #[.agg cs.toArray] I (fun W=>by go_simp) (fun W hW=>rW.Bc hW (CMO.out W hW)) ?_;simp only[X];refine rK (v:=.int .i64 (14*(mm:Int))) I (fun W hW=>by go_simp;exact IntWalk.i64_in _ Y) ?_;simp only[X]
 (refine rK (v:=(.pointer (some ⟨gH,11,none⟩))) I (fun W hW=>by first|(go_simp;done)|(go_simp;omega)) ?_;simp only[X])
 refine tE (v:=.slice A8 nS c8) 30 (.tmp 135) I ⟨gH,11,none⟩ I I (fun V hV=>LHS.out V hV) ?_;simp only[X]
 (refine rK (v:=(.int .i64 nS)) I (fun W hW=>by first|(go_simp;done)|(go_simp;omega)) ?_;simp only[X])
 refine rK (v:=.int .i64 (M2:Int)) I (fun W hW=>by go_simp;exact IntWalk.i64_in _ Y) ?_;simp only[X]
 (refine rK (v:=(.bool true)) I (fun W hW=>by first|(go_simp;done)|(go_simp;omega)) ?_;simp only[X])
 (refine rK (v:=(.bool true)) I (fun W hW=>by first|(go_simp;done)|(go_simp;omega)) ?_;simp only[X])
 (refine rK (v:=(.bool true)) I (fun W hW=>by first|(go_simp;done)|(go_simp;omega)) ?_;simp only[X])
 refine wpQuiet_nil ?_;intro w12 b12;go_wp2_with fail;go_ret;exact rW.mk I (rC H11.out H11.out.size b12)
end Go.Proofs.YtakkipnmpmobbaaGreat
