/-
  Layer 34,the law's own:HostFiles.
-/
import Derived.Test.YtakkipnmpmobbaaGreatLFq
namespace Go.Proofs.YtakkipnmpmobbaaGreat
open _root_.Go.Proofs.Tryz
set_option maxHeartbeats 8000000
open Go.RowKit
set_option maxRecDepth 100000
set_option linter.unusedVariables false
set_option linter.unusedSimpArgs false
theorem agr(A:Option Addr)(k c:Nat)(W:World):(Instr.build 33 #[(1,.slice A k c)]).run prog W= .ok (.agg (zQ rI rI rI Cd++[.slice A k c,rI,rI]).toArray) W:=by kernel_rfl
theorem afk(a b c d e f g h i j v2 v3:Value)(A:Option Addr)(n k:Nat)(W:World):(Instr.field 33 (.agg ([a,b,c,d,e,f,g,h,i,j]++[.slice A n k,v2,v3]).toArray) 1).run prog W= .ok (.slice A n k) W:=by kernel_rfl
theorem ags(cs:List Value)(h:cs.length=10)(v2 v3:Value)(A:Option Addr)(n k:Nat)(W:World):(Instr.field 33 (.agg (cs++[.slice A n k,v2,v3]).toArray) 1).run prog W= .ok (.slice A n k) W:=by
 match cs,h with
 |[a,b,c,d,e,f,g,h,i,j],_=>exact afk ..
theorem wH.take{α:Type}{w:World}{k:Nat}{R:List Value->α->Prop}{A:Option Addr}{l:List α}(h:wH w k R A l)(m:Nat):wH w k R A (l.take m):=by
 intro hp;have E:0<l.length:=by rw[List.length_take]at hp;omega
 obtain⟨b,off,U,F,h3⟩:=h E;refine⟨b,off,U,F,fun i hi=>?_⟩;obtain⟨cs,h4,h5⟩:=h3 i (by rw[List.length_take]at hi;omega);exact⟨cs,h4,by rw[List.getElem_take];exact h5⟩
theorem Ft.AY{hb Q':Nat->Value->World->Prop}(h:∀g v w,hb g v w->Q' g v w):∀e w,Ft hb e w->Ft Q' e w:=fun e w ⟨g,v,U,F⟩=>⟨g,v,U,h g v w F⟩
def FfQ(w0:World)(b gl:Nat)(R:List sg×List (List UInt8))(w:World)(g:Nat)(v:Value)(w':World):Prop:=∃A k c,v= .slice A k c/\Below b w w'/\(R.1=[]/\0<k/\(∃D c L,KT w0 w' b g gl D c 2 L 0 0 0 false)\/R.1≠[]/\k=0/\∃D c,Sn w0 w' b g gl D c 1/\c.r0=1/\c.r6=0/\uG w' 0 c.r1 (R.1.take 64)/\tw w' c.r2 R.2)
section
variable {w0 w:World} {b gl:Nat} {cs:List Value} {r:Rs} {Ah As Asv:Option Addr} {ch cS csv:Nat} {hs:List xC} {ss:List Src} {vs:List He} {s:List UInt8} {fam turn:Int} {L:Lt}
theorem adY(h:Bk w0 w cs r)(hw:ao w0 w)(hH:wH w0 19 (yY w0) Ah hs)(hhl:hs.length<=100)(hhn:∀h∈hs,h.ns.length<=100)(hSr:wH w0 5 uK As ss)(hsl:ss.length<=17592186044416)(hSv:wH w0 3 wG Asv vs)(hvl:vs.length<=1000)(hs1:s.length<=1000000)(E:sE w gl L)(hus:L.us=0)(hds:L.ds.length<=17592186044416)(hb0:w0.heap.size<=b)(hbw:b<=w.heap.size)(hbg:b<=gl){n:List (List UInt8)}{dt:Bool}(hp:parse s= .ok (n,dt))(hl:n≠[])(hS:sP ss=Gj):
  Calls prog 11 #[.agg (cs++[Value.slice Ah hs.length ch,Value.slice As ss.length cS,Value.slice Asv vs.length csv]).toArray,.string (bs s),.int .i64 fam,.int .i64 turn,.pointer (some ⟨gl,0,none⟩)] w (Ft (FfQ w0 b gl (sQ (tI hs) n (yQ fam)) w)):=by
 by_cases hf:(sQ (tI hs) n (yQ fam)).1=[]
 ·refine(Kq h hw hH hhl hhn hSr hsl hSv hvl hs1 E hus hds hb0 hbw hbg hp hl hS hf).mono (Ft.AY ?_);rintro g v w' ⟨o,D,c,M,hO,hl,-,hW,hB⟩;obtain⟨A,k,rfl,-,-⟩:=hO.form;exact⟨_,_,_,I,hB,.inl ⟨hf,List.length_pos_iff.2 hl,D,c,M,hW⟩⟩
 ·refine(Kp h hw hH hhl hhn hSr hsl hSv hvl hs1 E hus hds hb0 hbw hbg hp hl hS hf).mono (Ft.AY ?_);rintro g v w' ⟨rfl,D,c,hE,U,F,h3,h4,hB⟩;exact⟨_,_,_,I,hB,.inr ⟨hf,I,D,c,hE,U,F,h3,h4⟩⟩
end
theorem KW(Ah An:Option Addr)(ch cn:Nat)(hs:List xC)(n:List (List UInt8))(fam:Int)(w:World)(hH:wH w 19 (yY w) Ah hs)(hhl:hs.length<=17592186044416)(hN:wA w An cn n):
  Calls prog 3 #[.slice Ah hs.length ch,.slice An n.length cn,.int .i64 fam] w (rW (.bool true) w):=by
 have hSr:∀V:World,wH V 5 uK none ([]:List Src):=fun _ h=>absurd h K
 have hSv:∀V:World,wH V 3 wG none ([]:List He):=fun _ h=>absurd h K
 have hR:∀V:World,yc V (zQ rI rI rI Cd) Cd:=ik;have hRi:∀V:World,Bk w V (zQ rI rI rI Cd) Cd:=ik;have w1:∀u∈(zQ rI rI rI Cd++[.slice Ah hs.length ch,rI,rI]),u.oneCell'=true:=by simp[zQ,Value.oneCell',rI]
 have RBC:=J (fun W=>agr Ah hs.length ch W);have FW:=J (fun V (hV:ao w V)=>Ko (ch:=ch) (cS:=0) (csv:=0) V (hR V) (hH.mono hV (fun _ x ⟨A,c,U,F,h3⟩=>⟨A,c,U,F,xA h3 hV⟩)) (hSv V) hhl (ss:=[]) K K (As:=none));unfold abO at FW;obtain⟨tN,cN,lN,mN⟩:=hN;have F5:=J (fun V (hV:ao w V)=>U7 An cn n V (tN.G hV) Y (fun l E=>by have:=mN l E;omega));have CK:=J (fun V (hV:ao w V)=>Ck An cn n V (tN.G hV) Y);have PL:=J (fun V (hV:ao w V) (U:sq n<=254) (F:n≠[])=>UQ An cn n V ⟨tN.G hV,cN,lN,mN⟩ U F);have HD:=J (fun V (hV:ao w V) (q1:hs.length<=100) (q2:∀h∈hs,h.ns.length<=100)=>Ns (w0:=w) (ch:=ch) (cS:=0) (csv:=0) V (hR V) hV hH q1 q2 (hSr w) K (hSv w) K (As:=none) (ss:=[]));have FD:=J (fun A c V (hA:wH V 19 (sG w V) A (tI hs)) (hV:ao w V) (q2:∀h∈hs,h.ns.length<=100) (rB:∀h∈tI hs,h.ad.ip.length=16) (q3:hs.length<=100) (hn8:n.length<=254) f=>Yx w A c (tI hs) An cn n f V hA hV ⟨tN.G hV,cN,lN,mN⟩ (Wb q2 rB) (Nat.le_trans (GD hs) Y) Y);have XN0:=J (fun V gl b (hV:ao w V) (q1:hs.length<=100) (q2:∀h∈hs,h.ns.length<=100) (q4:(uV n).length<=1000000) (E:sE V gl ⟨[],0⟩) (h0:w.heap.size<=b) (Z:b<=V.heap.size) (hbg:b<=gl) (hp:parse (uV n)= .ok (n,false)) (hl:n≠[])=>adY (ch:=ch) (cS:=0) (csv:=0) (fam:=fam) (turn:=0) (hRi V) hV hH q1 q2 (hSr w) K (hSv w) K q4 E I K h0 Z hbg hp hl s34 (As:=none) (ss:=[]) (vs:=[]));unfold abN at HD;unfold Ft at XN0;have HNL:=J cN;clear hH hSr hSv hR hRi;change Hid (∀V (hV:ao w V),Calls prog 6 #[.agg (zQ rI rI rI Cd++[.slice Ah hs.length ch,rI,rI]).toArray] V _)at FW;change Hid (∀V (hV:ao w V) (q1:hs.length<=100) (q2:∀h∈hs,h.ns.length<=100),Calls prog 10 #[.agg (zQ rI rI rI Cd++[.slice Ah hs.length ch,rI,rI]).toArray] V _)at HD;change Hid (∀V (gl b:Nat) (hV:ao w V) (q1:hs.length<=100) (q2:∀h∈hs,h.ns.length<=100) (q4:(uV n).length<=1000000) (E:sE V gl ⟨[],0⟩) (h0:w.heap.size<=b) (Z:b<=V.heap.size) (hbg:b<=gl) (hp:parse (uV n)= .ok (n,false)) (hl:n≠[]),Calls prog 11 #[.agg (zQ rI rI rI Cd++[.slice Ah hs.length ch,rI,rI]).toArray,.string (bs (uV n)),.int .i64 fam,.int .i64 0,.pointer (some ⟨gl,0,none⟩)] V _)at XN0;obtain⟨CS,hCS⟩:=aq (zQ rI rI rI Cd++[.slice Ah hs.length ch,rI,rI]);have aiE:CS.length=13:=by rw[<-hCS.out];rfl
 rw[hCS.out]at FW HD XN0 RBC w1;have Y0:=N.new w 33 Nq;have k0:Below w.heap.size w (w.alloc (.cells Nq.toArray 33)):=fZ;go_enter func3,ntmps3;go_wp2_with(first
  |(refine rF (.build 33 #[(1,.tmp 14)]) rfl ?_;go_must(refine sy rfl 33 _ rfl #[(1,.slice Ah hs.length ch)] cY (RBC.out _) ?_))
  |(refine rF (.store 33 (.tmp 7) (.tmp 15)) rfl (ab rfl w.heap.size 0 CS Y0 (by rw[aiE];exact Nat.le_refl 13) (by rw[aiE];exact xv) w1 ?_)))
 intro B X1 g1 sw;clear sw;have B1:N B w.heap.size 33 CS:=tH (M:=Nq) (n:=13) (by simpa[aiE]using X1) K;have H1:=rE k0 g1 k0.size (Nat.le_refl _);clear X1 g1 k0 Y0 RBC w1;go_wp2_with fail;refine(yH _).mono ?_;rintro _ w2 ⟨rfl,b2⟩;have B2:=B1.G b2 B1.lt;have H2:=rC H1 H1.size b2;clear B1 H1 b2;go_wp2_with(refine rF (.load 33 (.tmp 7)) I ?_;go_must(refine vR 33 (.tmp 7) I bc w.heap.size 0 I B2 13 Y _ underlying33 I xv CS (uH Y) ?_));refine(FW.out _ H2).mono ?_;rintro _ w3 ⟨b,rfl,hok,b3⟩;have B3:=B2.G b3 B2.lt;have H3:=rC H2 H2.size b3;have HOK:=J hok;clear B2 H2 b3 FW hok;cases b with
 |false=>have HX:=H3;exact nw
 |true=>
 obtain⟨f1,f2,f3,f4⟩:=HOK.out I;have HF4:Hid (∀h∈hs,h.ns.length<=100):=J (fun h hm=>Nat.le_trans (f4 h hm) K);clear HOK f4 f2 f3;go_wp2_with fail;refine(F5.out _ H3).mono ?_;rintro _ _ ⟨rfl,rfl⟩;clear F5;by_cases asc:sq n<=400
 case neg=>rw[decide_eq_false asc];have HX:=H3;exact nw
 rw[decide_eq_true asc];clear asc;go_wp2_with fail;refine(CK.out _ H3).mono ?_;rintro _ _ ⟨rfl,rfl⟩;clear CK;by_cases hck:rR n=0
 case neg=>have alp:(rR n !=0)=true:=iD;have HX:=H3;clear hck;exact nw
 have alp:(rR n !=0)=false:=iD;have hls:=(ud hck).2;by_cases hl:n=[]
 case pos=>
  have hnl:((n.length:Int)==0)=true:=by rw[hl];rfl
  have HX:=H3;clear hck hl;exact nw
 have hnl:((n.length:Int)==0)=false:=by have:n.length≠0:=lF;simp;omega
 have HPJ:=J (Sj hck hl);have HNE:=J hl;have hlen:=yV n;clear hck hl;go_upto_region 5 with fail;go_cut[44] (fun v wx=>v= .bool (decide (fam=4\/fam=6))/\wx=w3)
 case first=>
  by_cases h4:fam=4
  case pos=>subst h4;exact pJ
  have h4':(fam==4)=false:=kh;by_cases h6:fam=6
  case pos=>subst h6;exact pJ
  have h6':(fam==6)=false:=iw;have hd:Hid (decide (fam=4\/fam=6)=false):=J (decide_eq_false (fun c=>c.elim h4 h6));clear h4 h6;go_wp2_with fail;go_meet
  case rel=>exact⟨by rw[hd.out],I⟩
 obtain⟨rfl,hw⟩:=hcut;subst hw;obtain⟨w3,rfl⟩:∃w3,w3=wc:=gh;go_upto_if 44 with fail;go_cut[8] (fun v wx=>v= .int .i64 (yQ fam)/\wx=w3)
 case first=>
  by_cases h4:fam=4\/fam=6
  case pos=>have hF:Hid (yQ fam=fam):=J (by unfold yQ;rw[if_pos h4]);rw[decide_eq_true h4];exact qy
  have hF:Hid (yQ fam=0):=J (by unfold yQ;rw[if_neg h4]);rw[decide_eq_false h4];exact qy
 obtain⟨rfl,hw⟩:=hcut;subst hw;obtain⟨w3,rfl⟩:∃w3,w3=wc:=gh;go_wp2_with(refine rF (.load 33 (.tmp 7)) I ?_;go_must(refine rG I _ _ I w.heap.size 0 I B3 13 Y _ underlying33 I xv CS (uH Y) ?_));refine(HD.out w3 H3 Y HF4.out).mono ?_;rintro _ w4 ⟨c2,v1,v2,v3,rfl,hc2,hO1,hO2,-,alL,b4⟩;obtain⟨A7,c7,rfl⟩:=hO1.form;have B4:=B3.G b4 B3.lt;have H4:=rC H3 H3.size b4;have FF:=J (fun W=>ags c2 hc2 v2 v3 A7 (tI hs).length c7 W);have FDC:=J (FD.out A7 c7 w4 (hO1.Ma (fun _ _ x=>x.len)) H4 HF4.out (hO1.all (fun _ _ ⟨_,_,h,_⟩=>h)) Y Y (yQ fam));unfold aeg at FDC;obtain⟨R,hR⟩:=aq (sQ (tI hs) n (yQ fam));rw[hR.out]at FDC;have hRl:R.1.length<=1000:=by have U:=Fm n (yQ fam) (tI hs);have F:=GD hs;rw[hR.out]at U;omega
 generalize(tI hs).length=nh at*;clear HD FD B3 H3 b4 hO1 hO2 alL;go_wp2_with(refine rF (.field 33 (.tmp 48) 1) I ?_;go_must(refine zw (v:=.slice A7 nh c7) bc (AO 33 (.tmp 48) 1 I I (FF.out _)) ?_));refine FDC.out.mono ?_;rintro _ w5 ⟨A9,c9,Af,cf,rfl,hO9,hN9,b5⟩;have B5:=B4.G b5 B4.lt;have H5:=rC H4 H4.size b5;obtain⟨nR,hnR⟩:=aq R.1.length;have HO9:=J (show wH w5 18 xH A9 R.1 from hO9.Ma (fun _ x y=>by rw[y.1];exact x.rY y.2));have HN9:=J hN9;have hc9:=hO9.cap.1;rw[hnR.out]at hc9;rw[hnR.out]at hRl⊢;clear FDC b5 B4 H4 hO9 hN9 FF;have hjl:(uV n).length<=1000000:=by have:=Ni n;omega
 have LC:Hid (∀V,ao w5 V->(Instr.loadAt 33 (.pointer (some ⟨w.heap.size,0,none⟩))).run prog V= .ok (.agg CS.toArray) V):=J (fun V hV=>(B5.G hV B5.lt).tW 33 0 13 Y _ underlying33 I xv _ (uH Y));have PC:=J (fun V (hV:ao w5 V)=>PL.out V (rC H5 H5.size hV) Y HNE.out);have XN:=J (fun V gl (hV:ao w5 V) (E:sE V gl ⟨[],0⟩) (hbg:w5.heap.size<=gl)=>XN0.out V gl w5.heap.size (rC H5 H5.size hV) Y HF4.out hjl E H5.size hV.size hbg HPJ.out HNE.out);rw[hR.out]at XN;clear XN0 PL HPJ hR;unfold FfQ at XN;go_upto_region 8 with fail;go_cut[11,12] (fun v6 v7 wx=>∃g gl A k c,v6= .pointer (some ⟨g,0,none⟩)/\v7= .slice A k c/\ao w5 wx/\Hid (R.1=[]/\0<k/\(∃D c L,KT w wx w5.heap.size g gl D c 2 L 0 0 0 false)\/R.1≠[]/\k=0/\∃D c,Sn w wx w5.heap.size g gl D c 1/\c.r0=1/\c.r6=0/\uG wx 0 c.r1 (R.1.take 64)/\tw wx c.r2 R.2))
 case first=>
  refine wp_region_held_drew (S:=fun V=>ao w5 V) (by kernel_rfl) (Below.refl _ _).drew (fun hS=>?_);refine rS hS 3 [0,1,3] I (by kernel_rfl) (fun _ _ _ _ _ h=>h) I I ?_
  (refine aj _ I I (fun V hV=>(rX 33 (.tmp 7) ⟨w.heap.size,0,none⟩ I I (LC.out V hV))) ?_;simp only[X])
  (refine ak (.slice An n.length cn) ?_;simp only[X])
  (refine ak (.int .i64 fam) ?_;simp only[X])
  simp only[sS];refine su 2 (some 58) 12 #[.slice An n.length cn] (by kernel_rfl) I I (by kernel_rfl) bc (PC.out _ hS) ?_;rintro _ _ ⟨rfl,rfl⟩;refine⟨_,I,hS,?_⟩;simp only[X];refine su 4 (some 60) 13 #[.slice none 0 0] (by kernel_rfl) I I (by kernel_rfl) bc (EP none 0 [] _ (fun h=>absurd h K) K) ?_;rintro _ w6 ⟨gl,rfl,hLt,b6,avj⟩;have hS6:=rC hS hS.size b6;have hgl:w5.heap.size<=gl:=Nat.le_trans hS.size avj;refine⟨_,I,hS6,?_⟩;clear hS b6 avj;have hS:=hS6;clear hS6;simp only[X];refine su 5 (some 61) 11 #[.agg CS.toArray,.string (bs (uV n)),.int .i64 fam,.int .i64 0,.pointer (some ⟨gl,0,none⟩)] (by kernel_rfl) I I (by kernel_rfl) bc (XN.out _ gl hS hLt hgl) ?_;rintro _ w7 ⟨g,v,rfl,A7,k7,c7,rfl,hb7,hq⟩;have hS7:ao w5 w7:=hS.trans hb7;refine⟨_,I,hS7,?_⟩;have HQ:=J hq;clear hS hgl hLt hb7 hq;have hS:=hS7;clear hS7;simp only[X];refine rS hS 5 [6,7,8,9,10] I (by kernel_rfl) (fun _ _ _ _ _ h=>h) I I ?_
  (refine ak (.tuple #[.pointer (some ⟨g,0,none⟩),.slice A7 k7 c7]) ?_;simp only[X])
  (refine ak (.pointer (some ⟨g,0,none⟩)) ?_;simp only[X])
  (refine ak (.slice A7 k7 c7) ?_;simp only[X])
  (refine ak (.pointer (some ⟨g,0,none⟩)) ?_;simp only[X])
  (refine ak (.slice A7 k7 c7) ?_;simp only[X])
  simp only[sS];refine wpAnyH_done (by kernel_rfl) ?_ _;go_wp2_with fail;go_meet
  case rel=>exact⟨g,gl,A7,k7,c7,I,I,hS,HQ⟩
 obtain⟨g,gl,A7,k7,c7,rfl,rfl,hW6,HQ⟩:=hcut;obtain⟨w6,rfl⟩:∃w6,w6=wc:=gh;have H6:=rC H5 H5.size hW6;clear LC PC XN B5 H5;rcases HQ.out with⟨hR0,O,D,c,L,hW⟩|⟨hR0,rfl,D,c,hE,hr0,hsn,hA,hT⟩
 ·
  have hn0:((nR:Int)==0)=true:=by rw[<-hnR.out,hR0];rfl
  obtain⟨T1,K1,-⟩:=hW.rU.k;have DN:=J (xD K1);rw[hW.dn]at DN;have hk':(0:Int)<k7:=Y;clear HQ hR0 hW K1 O;go_wp2_with fail;refine DN.out.mono ?_;rintro _ _ ⟨rfl,rfl⟩;go_wp2_with fail;go_ret;exact rW.mk I H6
 have hn0:((nR:Int)==0)=false:=by
  have:nR≠0:=fun h=>hR0 (List.length_eq_zero_iff.1 (by rw[hnR.out];exact h))
  simp;omega
 obtain⟨T1,K1,-⟩:=hE.rU.k;have RA:=J (zL K1 hE.dn hA (by rw[List.length_take];omega) hE.rU.eq.2.2.2.1);obtain⟨Ar,kr,hr2,hTr,-⟩:=hT.form;have HTR:=J hTr;have CDN:Hid (∀V,ao w6 V->Calls prog 14 #[.pointer (some ⟨g,0,none⟩)] V (uQ (.bool true) V)):=J (fun V hV=>by
  have:=xD (K1.G hV);rwa[hE.dn]at this)
 have CSN:Hid (∀V,ao w6 V->Calls prog 16 #[.pointer (some ⟨g,0,none⟩)] V (uQ (.int .i64 0) V)):=J (fun V hV=>by
  have:=Pg (K1.G hV) hE.pp;rwa[hsn]at this)
 rw[hr0,hr2]at RA;unfold Kn at RA;obtain⟨m,hm⟩:=aq ((R.1.take 64).length);have hmn:=J (show m=min 64 nR by rw[<-hm.out,List.length_take,hnR.out]);have aLj:m<=64:=mn;have aLh:m<=nR:=mn;obtain⟨n2,hn2⟩:=aq R.2.length;have aA4:n2<=281474976710656:=by have:=HN9.out.2.2.1;rw[hn2.out]at this;omega
 rw[hn2.out]at RA⊢;generalize c.r3=r3 at*;clear HQ hR0 hE K1 hA hT hTr hsn hr0 hr2;go_wp2_with fail;refine RA.out.mono ?_;rintro _ w7 ⟨v7,rfl,hO7,b7⟩;obtain⟨A8,c8,rfl⟩:=hO7.form;rw[hm.out];have HO7:=J (show wH w7 18 xH A8 (R.1.take 64)from hO7.Ma (fun _ x y=>by rw[y.1];exact x.rY y.2));have B7:=N.new w7 50 ae3;have k7':Below w7.heap.size w7 (w7.alloc (.cells ae3.toArray 50)):=fZ;have w1:∀v∈[Value.int .i64 1,.slice A8 m c8,.slice Ar n2 kr,.int .i64 r3],v.oneCell'=true:=aO;clear RA hO7;go_wp2_with(refine rF (.store 50 (.tmp 13) (.tmp 78)) I (ab I w7.heap.size 0 [.int .i64 1,.slice A8 m c8,.slice Ar n2 kr,.int .i64 r3] B7 (Nat.le_refl 4) MW w1 ?_));intro w8 X8 g8 sw;clear sw;have BR:N w8 w7.heap.size 50 [.int .i64 1,.slice A8 m c8,.slice Ar n2 kr,.int .i64 r3]:=by simpa[ae3]using X8
 have b8:=rE k7' g8 k7'.size (Nat.le_refl _);obtain⟨gR,hgR⟩:=aq w7.heap.size;rw[hgR.out]at BR⊢;have b68:=rC b7 b7.size b8;have H8:=rC H6 H6.size b68;have LV0:Hid (∀V,ao w8 V->(Instr.loadAt 3 (.pointer (some ⟨gR,0,none⟩))).run prog V= .ok (.int .i64 1) V):=J (fun V hV=>rQ underlying3 I ((BR.G hV BR.lt).rD 0 I));have LV1:Hid (∀V,ao w8 V->(Instr.loadAt 25 (.pointer (some ⟨gR,1,none⟩))).run prog V= .ok (.slice A8 m c8) V):=J (fun V hV=>rQ underlying25 I ((BR.G hV BR.lt).rD 1 I));have LV2:Hid (∀V,ao w8 V->(Instr.loadAt 24 (.pointer (some ⟨gR,2,none⟩))).run prog V= .ok (.slice Ar n2 kr) V):=J (fun V hV=>rQ underlying24 I ((BR.G hV BR.lt).rD 2 I));have CD:=J (fun V (hV:ao w8 V)=>CDN.out V (rC b68 b68.size hV));have CS':=J (fun V (hV:ao w8 V)=>CSN.out V (rC b68 b68.size hV));have SA:Hid (∀V,ao w8 V->Calls prog 17 #[.slice A8 m c8,.slice A9 m c9] V (rW (.bool true) V)):=J (fun V hV=>by
  have U:=HO7.out.mono (rC b8 b8.size hV) (fun _ _ x=>x);have F:=(HO9.out.mono (rC hW6 hW6.size (rC b68 b68.size hV)) (fun _ _ x=>x)).take 64;have:=Yw A8 A9 c8 c9 (R.1.take 64) V U F (by rw[hm.out];omega);rwa[hm.out]at this)
 have SE:Hid (∀V,ao w8 V->Calls prog 18 #[.slice Ar n2 kr,.slice Af n2 cf] V (rW (.bool true) V)):=J (fun V hV=>by
  have U:=HTR.out.G (rC b68 b68.size hV);have F:=HN9.out.1.G (rC hW6 hW6.size (rC b68 b68.size hV));have:=KZ Ar Af R.2 R.2 kr cf V U F fK fK;rw[decide_eq_true I,hn2.out]at this;exact this)
 have HH8:=J H8;clear CDN CSN HO7 HTR B7 X8 g8 k7' b7 b8 b68 H6 hW6 H8 w1;go_wp2_with fail;refine vp (by kernel_rfl) (by kernel_rfl) ?_
 (refine rK (v:=(.slice A7 0 c7)) I (fun W hW=>by first|(go_simp;done)|(go_simp;omega)) ?_;simp only[X])
 (refine rK (v:=(.int .i64 0)) I (fun W hW=>by first|(go_simp;done)|(go_simp;omega)) ?_;simp only[X])
 (refine rK (v:=(.bool true)) I (fun W hW=>by first|(go_simp;done)|(go_simp;omega)) ?_;simp only[X])
 (refine rK (v:=(.bool true)) I (fun W hW=>by first|(go_simp;done)|(go_simp;omega)) ?_;simp only[X])
 (refine rK (v:=(.pointer (some ⟨g,0,none⟩))) I (fun W hW=>by first|(go_simp;done)|(go_simp;omega)) ?_;simp only[X])
 refine tL (v:=.bool true) 14 #[.pointer (some ⟨g,0,none⟩)] I (fun W=>by go_simp) (fun W hW=>uQ.Bc hW (CD.out W hW)) ?_;simp only[X]
 (refine rK (v:=(.bool true)) I (fun W hW=>by first|(go_simp;done)|(go_simp;omega)) ?_;simp only[X])
 (refine rK (v:=(.bool true)) I (fun W hW=>by first|(go_simp;done)|(go_simp;omega)) ?_;simp only[X])
 (refine rK (v:=(.pointer (some ⟨g,0,none⟩))) I (fun W hW=>by first|(go_simp;done)|(go_simp;omega)) ?_;simp only[X])
 refine tL (v:=.int .i64 0) 16 #[.pointer (some ⟨g,0,none⟩)] I (fun W=>by go_simp) (fun W hW=>uQ.Bc hW (CS'.out W hW)) ?_;simp only[X]
 (refine rK (v:=(.bool true)) I (fun W hW=>by first|(go_simp;done)|(go_simp;omega)) ?_;simp only[X])
 (refine rK (v:=(.bool true)) I (fun W hW=>by first|(go_simp;done)|(go_simp;omega)) ?_;simp only[X])
 (refine rK (v:=(.bool true)) I (fun W hW=>by first|(go_simp;done)|(go_simp;omega)) ?_;simp only[X])
 (refine rK (v:=(.pointer (some ⟨gR,0,none⟩))) I (fun W hW=>by first|(go_simp;done)|(go_simp;omega)) ?_;simp only[X])
 refine tE (v:=.int .i64 1) 3 (.tmp 92) I ⟨gR,0,none⟩ I I (fun V hV=>LV0.out V hV) ?_;simp only[X]
 (refine rK (v:=(.bool true)) I (fun W hW=>by first|(go_simp;done)|(go_simp;omega)) ?_;simp only[X])
 (refine rK (v:=(.bool true)) I (fun W hW=>by first|(go_simp;done)|(go_simp;omega)) ?_;simp only[X])
 (refine rK (v:=(.bool true)) I (fun W hW=>by first|(go_simp;done)|(go_simp;omega)) ?_;simp only[X])
 (refine rK (v:=(.pointer (some ⟨gR,1,none⟩))) I (fun W hW=>by first|(go_simp;done)|(go_simp;omega)) ?_;simp only[X])
 refine tE (v:=.slice A8 m c8) 25 (.tmp 97) I ⟨gR,1,none⟩ I I (fun V hV=>LV1.out V hV) ?_;simp only[X]
 (refine rK (v:=(.slice A9 nR c9)) I (fun W hW=>by first|(go_simp;done)|(go_simp;omega)) ?_;simp only[X])
 (refine rK (v:=(.slice A9 nR c9)) I (fun W hW=>by first|(go_simp;done)|(go_simp;omega)) ?_;simp only[X])
 (refine rK (v:=(.int .i64 nR)) I (fun W hW=>by first|(go_simp;done)|(go_simp;omega)) ?_;simp only[X])
 refine rK (v:=.int .i64 m) I (fun W hW=>by go_simp;have:=hmn.out;split<;>omega) ?_;simp only[X];refine rK (v:=.slice A9 m c9) I (fun W hW=>by go_simp;intro h;omega) ?_;simp only[X];refine tL (v:=.bool true) 17 #[.slice A8 m c8,.slice A9 m c9] I (fun W=>by go_simp) (fun W hW=>rW.Bc hW (SA.out W hW)) ?_;simp only[X]
 (refine rK (v:=(.bool true)) I (fun W hW=>by first|(go_simp;done)|(go_simp;omega)) ?_;simp only[X])
 (refine rK (v:=(.bool true)) I (fun W hW=>by first|(go_simp;done)|(go_simp;omega)) ?_;simp only[X])
 (refine rK (v:=(.pointer (some ⟨gR,2,none⟩))) I (fun W hW=>by first|(go_simp;done)|(go_simp;omega)) ?_;simp only[X])
 refine tE (v:=.slice Ar n2 kr) 24 (.tmp 107) I ⟨gR,2,none⟩ I I (fun V hV=>LV2.out V hV) ?_;simp only[X]
 (refine rK (v:=(.slice Af n2 cf)) I (fun W hW=>by first|(go_simp;done)|(go_simp;omega)) ?_;simp only[X])
 refine tL (v:=.bool true) 18 #[.slice Ar n2 kr,.slice Af n2 cf] I (fun W=>by go_simp) (fun W hW=>rW.Bc hW (SE.out W hW)) ?_;simp only[X]
 (refine rK (v:=(.bool true)) I (fun W hW=>by first|(go_simp;done)|(go_simp;omega)) ?_;simp only[X])
 (refine rK (v:=(.bool true)) I (fun W hW=>by first|(go_simp;done)|(go_simp;omega)) ?_;simp only[X])
 refine wpQuiet_nil ?_;intro w9 b9;go_wp2_with fail;go_ret;exact rW.mk I (rC HH8.out HH8.out.size b9)
end Go.Proofs.YtakkipnmpmobbaaGreat
