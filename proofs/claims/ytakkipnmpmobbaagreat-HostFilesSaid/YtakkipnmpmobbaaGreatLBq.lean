/-
  Layer 18 (hosts):has,Find.
-/
import Derived.Test.YtakkipnmpmobbaaGreatLAq
import Derived.Test.YtakkipnmpmobbaaGreatIVq
namespace Go.Proofs.YtakkipnmpmobbaaGreat
open _root_.Go.Proofs.Tryz
set_option maxHeartbeats 8000000
open Go.RowKit
set_option maxRecDepth 100000
set_option linter.unusedVariables false
set_option linter.unusedSimpArgs false
variable {w0 w w':World} {va vn:Value} {o:Oper} {a:Act}
def Pc(h:xC)(n:List (List UInt8)):Bool:=h.ns.any (fun m=>decide (tF m=tF n))
structure Pd (h:xC):Prop where
 ad:adF h.ad
 n1:1<=h.ns.length
 nl:h.ns.length<=17592186044416
 nn:∀n∈h.ns,n.length<=100000
theorem adP{h:xC}(h0:yE h=true)(rB:h.ad.ip.length=16)(E:h.ns.length<=17592186044416)(hn:∀n∈h.ns,xu n=true):Pd h:=by
 unfold yE at h0;simp only[Bool.and_eq_true,decide_eq_true_eq]at h0;refine⟨?_,h0.2,E,fun n hx=>?_⟩
 ·
  have U:h.ad.check=0:=by simpa[zi]using h0.1
  unfold sg.check at U;split at U
  ·
   rename_i h4;split at U
   ·rename_i h5;exact⟨.inl h4,Y,rB⟩
   ·cases U
  ·
   split at U
   ·
    rename_i h6;split at U
    ·cases U
    ·rename_i h7;exact⟨.inr h6,Y,rB⟩
   ·cases U
 ·have F:=hn n hx;unfold xu at F;simp only[Bool.and_eq_true,decide_eq_true_eq,beq_iff_eq]at F;have:=(ud F.2).2;have:=yV n;omega
theorem abF(w0:World)(cs:List Value)(h:xC)(A:Option Addr)(c:Nat)(n:List (List UInt8))(w:World)(x:sG w0 w cs h)(hw:ao w0 w)(hN:wA w A c n)(hf:Pd h):
  Calls prog 102 #[.agg cs.toArray,.slice A n.length c] w (rW (.bool (Pc h n)) w):=by
 have hcl:=x.len;have HX:Below w.heap.size w (w.alloc (.cells cs.toArray 74)):=fZ;have hk:=N.new w 74 cs;obtain⟨v,hcc,rB,hO⟩:=x;obtain⟨Al,cl,hv⟩:=hO.form;subst hv;have hnl:=hf.nl;have d18:=hk.rD 18 (u:=.slice Al h.ns.length cl) (by rw[hcc,List.getElem?_append_right eg,h.ad.rY rB];rfl);have LI:=J (hO.Ma (fun _ _ ⟨_,_,h,_⟩=>by rw[h];rfl));have HN:=J hN;have HW:=J hw;obtain⟨R,hR⟩:=aq (Pc h n);have HT:=J (fun k (O:k<h.ns.length) (e:tF h.ns[k]=tF n)=>(show R=true by rw[<-hR.out];exact List.any_eq_true.2 ⟨_,List.getElem_mem O,by simpa using e⟩));have HFl:=J (fun(e:∀k (O:k<h.ns.length),¬tF h.ns[k]=tF n)=>(show R=false by
  rw[<-hR.out];refine List.any_eq_false.2 fun m hm=>?_
  obtain⟨k,O,rfl⟩:=List.getElem_of_mem hm;simpa using e k O))
 rw[hR.out];clear hO hN hw hcc rB hR hf;generalize h.ns=l at*;go_enter func102,ntmps102;go_wp2_with fail;obtain⟨W,hW⟩:=aq (w.alloc (.cells cs.toArray 74));rw[hW.out]at d18 HX⊢;clear hk hW;go_loopw[10] (fun iv wr=>∃k:Nat,k<=l.length/\iv= .int .i64 k/\Hid (∀i (hi:i<l.length),i<k->¬tF l[i]=tF n)/\ao w wr) (fun iv _=>l.length-(intOf iv).toNat)
 case atStart=>exact⟨0,Nat.zero_le _,I,J (fun i hi c=>absurd c Y),HX⟩
 obtain⟨k,O,rfl,HS,HB⟩:=hrel;by_cases aA:k<l.length
 case neg=>exact oX
 have h1:(k:Int)<l.length:=Y;obtain⟨b,off,rfl,Z,hr⟩:=LI.out Y;obtain⟨cs0,ahi,An,cn,rfl,hnm⟩:=hr k aA;have ce:=(HB.cell (p:=⟨b,off+k,none⟩) Z).trans bY;have DS:=J (Gf An A l[k] n cn c wr (hnm.G (rC HW.out HW.out.size HB)) (HN.out.G HB));have hn1:=hnm.2.2.1;have HTk:=J (HT.out k aA);have HSk:Hid (¬tF l[k]=tF n->∀i (hi:i<l.length),i<k+1->¬tF l[i]=tF n):=J (fun e i hi c=>by
  by_cases q:i=k
  ·subst q;exact e
  ·
   exact HS.out i hi Y)
 clear hnm hr ahi HT HS;generalize l[k].length=nk at*;go_wp2_with fail;refine DS.out.mono ?_;rintro _ w5 ⟨rfl,b5⟩;have HB5:=rC HB HB.size b5;clear DS b5 HB ce;by_cases hq:tF l[k]=tF n
 ·exact pF
 ·
  have HS2:=J (HSk.out hq);rw[decide_eq_false hq];clear hq HTk HSk;go_wp2_with fail;go_roundw
  case rel=>exact⟨k+1,Y,fQ,HS2,HB5⟩
  case measure=>simp[intOf];omega
theorem Nj{α:Type}{l:List α}(d:α)(h:0<l.length):l.headD d=l[0]:=by cases l with|nil=>simp at h|cons x l=>rfl
def Ys(n:List (List UInt8))(fam:Int)(h:xC):Bool:=(decide (fam=0)||decide (h.ad.fam=fam))&&Pc h n
def Nk(n:List (List UInt8))(fam:Int)(s:List sg×List (List UInt8))(h:xC):List sg×List (List UInt8):=if Ys n fam h then(if h.ad∈s.1 then s.1 else s.1++[h.ad],if s.1=[]then h.ns.headD []else s.2)else s
def sQ(l:List xC)(n:List (List UInt8))(fam:Int):List sg×List (List UInt8):=l.foldl (Nk n fam) ([],[])
theorem Nl(l:List xC)(n:List (List UInt8))(fam:Int)(k:Nat)(O:k<l.length):sQ (l.take (k+1)) n fam=Nk n fam (sQ (l.take k) n fam) l[k]:=by
 unfold sQ;exact qN
theorem Fm(n:List (List UInt8))(fam:Int):∀(l:List xC),(sQ l n fam).1.length<=l.length:=by
 have key:∀(l:List xC) (s:List sg×List (List UInt8)),(l.foldl (Nk n fam) s).1.length<=s.1.length+l.length:=by
  intro l;induction l with
  |nil=>intro s;exact Nat.le_refl _
  |cons h l ih=>
   intro s;rw[List.foldl_cons];refine Nat.le_trans (ih _) ?_;have:(Nk n fam s h).1.length<=s.1.length+1:=by
    unfold Nk;split
    ·
     simp only;split
     ·omega
     ·simp
    ·omega
   rw[List.length_cons];omega
 intro l;have:=key l ([],[]);simpa[sQ]using this
def aef(R:List sg×List (List UInt8))(w:World)(e:Ending)(w':World):Prop:=∃A c vn,e= .returned (.tuple #[.slice A R.1.length c,vn])/\uG w' 0 (.slice A R.1.length c) R.1/\tw w' vn R.2/\ao w w'
structure UR (w0 w:World) (gm:Nat) (va vn:Value) (R:List sg×List (List UInt8)):Prop where
 own:uG w w0.heap.size va R.1
 nm:tw w vn R.2
 map:zT w gm R.1.length R.1
 ba:ao w0 w
theorem UR.G{gm:Nat}{R:List sg×List (List UInt8)}(h:UR w0 w gm va vn R)(k:ao w w'):UR w0 w' gm va vn R:=
 ⟨rJ.G h.own k (fun _ _ x=>x),h.nm.G k,h.map.kept (r5 k none) ar,rC h.ba h.ba.size k⟩
theorem UR.sD{gm g:Nat}{R:List sg×List (List UInt8)}{t:TypeId}{cs:List Value}(h:UR w0 w gm va vn R)(hg:w.grownBy w' (some g))(Z:N w g t cs)(E:w0.heap.size<=g)(U:t≠67)(F:t≠9):UR w0 w' gm va vn R:=
 ⟨h.own.sD hg Z U,h.nm.grown hg Z F,h.map.kept hg (by intro c;injection c with c;exact h.map.Co Z c),rE h.ba hg h.ba.size E⟩
theorem Yt(w0:World)(A:Option Addr)(c:Nat)(l:List xC)(An:Option Addr)(cn:Nat)(n:List (List UInt8))(fam:Int)(w:World)(hA:wH w 19 (sG w0 w) A l)(hw:ao w0 w)(hN:wA w An cn n)(hf:∀h∈l,Pd h)(E:l.length<=1000):
  Calls prog 92 #[.slice A l.length c,.slice An n.length cn,.int .i64 fam] w (aef (sQ l n fam) w):=by
 have hzl:zR.length=19:=rfl;have HAS:=J (fun cs h W (hc:sG w0 w cs h) (Z:ao w W) (hf:Pd h)=>abF w0 cs h An cn n W (hc.G Z) (rC hw hw.size Z) (hN.G Z) hf);have CL:=J (fun A c m W (h:wA W A c m) (E:m.length<=100000)=>yn A c m W h E);have HF:=J hf;have HLN:=J (fun k=>Fm n fam (l.take k));have MM:=zT.made w;have HW0:=J hw;obtain⟨R0,hR0⟩:=aq (sQ l n fam);rw[hR0.out];unfold I9 at CL;clear hf hw hN;have hmm:= @run_makeMap prog;go_enter func92,ntmps92;go_wp2_with fail;obtain⟨gm,hgm⟩:∃gm,w.heap.size=gm:=gh;have H0:Below w.heap.size w (w.alloc (.map #[] 0)):=fZ;have X0:Hid (UR w (w.alloc (.map #[] 0)) gm (.slice none 0 0) (.slice none 0 0) (sQ (l.take 0) n fam)):=J ⟨rJ.nil _ _ _ _ _,tw.nil _,hgm▸MM,H0⟩;have hgw:w.heap.size<=gm:=Y;clear MM H0 hmm;obtain⟨W0,hW0⟩:=aq (w.alloc (.map #[] 0));rw[hgm,hW0.out];rw[hW0.out]at X0;have HGM:=J hgm;clear hW0 hgm;go_loopw[8,9,16] (fun fv ov iv wr=>∃(k:Nat) (A2:Option Addr) (n2 c2:Nat),k<=l.length/\iv= .int .i64 k/\fv= .slice A2 n2 c2/\Hid (n2=(sQ (l.take k) n fam).1.length)/\Hid (UR w wr gm (.slice A2 n2 c2) ov (sQ (l.take k) n fam))) (fun _ _ iv _=>l.length-(intOf iv).toNat)
 case atStart=>exact⟨0,none,0,0,Nat.zero_le _,I,I,J I,X0⟩
 clear X0;obtain⟨k,A2,n2,c2,O,rfl,rfl,hn2,HX⟩:=hrel;by_cases aA:k<l.length
 case neg=>have h1:¬(k:Int)<l.length:=Y;have e:l.take k=l:=kN;rw[e,hR0.out]at HX hn2;clear HAS CL HF HLN hA;go_wp2_with fail;go_ret2;have HX:=HX.out;rw[hn2.out]at HX⊢;exact⟨_,_,_,I,rJ.zero HX.own,HX.nm,HX.ba⟩
 have h1:(k:Int)<l.length:=Y;obtain⟨b,off,rfl,Z,hr⟩:=hA Y;obtain⟨cs,hcs,hce⟩:=hr k aA;have hcs:=rN hcs HX.out.ba Z;have hcl:=hce.len;have w1:=hce.one;have hfk:=HF.out _ (List.getElem_mem aA);have FT:=J (Nl l n fam k aA);have hln:=HLN.out k;have W1:Below wr.heap.size wr (wr.alloc (.cells zR.toArray 74)):=fZ;have HXz:=J (HX.out.G W1);have hwr:=HX.out.ba.size;obtain⟨h,hh⟩:∃h,l[k]=h:=gh;rw[hh]at hce hfk FT;obtain⟨S,hS⟩:∃S,sQ (l.take k) n fam=S:=gh;rw[hS]at HXz FT hn2 hln;have aA3:n2<=k:=by rw[hn2.out];refine Nat.le_trans hln ?_;simp;omega
 clear hln hS hr hA HLN HF HX hh;obtain⟨gq,hgq⟩:=aq wr.heap.size;have Zq:=N.new wr 74 zR;go_wp2_with(first
  |(refine rF (.load 74 (.tmp 18)) rfl ?_;go_must(refine sr rfl 74 (.tmp 18) rfl b (off+k*19) rfl cs hcs _ underlying74 rfl dc ?_))
  |(refine rF (.store 74 (.tmp 12) (.tmp 19)) rfl (ab rfl wr.heap.size 0 cs Zq de dc w1 ?_)))
 intro B B1 g1 sw;clear sw;have B1':=tH B1 Y;have X1:=HXz.out.sD g1 Zq Y K K;clear B1 g1 Zq HXz W1 hcs;rw[hgq.out]at B1'⊢;have HCE:=J (show sG w0 w cs h from hce);obtain⟨vh,hcc,rB,hNs⟩:=hce;obtain⟨Ah,ch,hvh⟩:=hNs.form;subst hvh;have hLa:=h.ad.rY rB;have L0:(cs.drop 0).take 18=h.ad.cells:=jS;have L18:cs[18]?=some (.slice Ah h.ns.length ch):=by rw[hcc,List.getElem?_append_right Y,hLa];rfl
 have Lf:cs[0]?=some (.int .i64 h.ad.fam):=by rw[hcc];rfl
 have HNS:=J hNs;have HX1:=J X1;have HK:=J hfk;have auT:=hfk.n1;have auS:=hfk.nl;have aBs:w.heap.size<=gq:=lQ;clear hcc hNs X1 hfk w1 hgq hcs Z;go_upto_region 7 with fail;go_cut[34] (fun v wx=>v= .bool (!Ys n fam h)/\Hid (UR w wx gm (.slice A2 n2 c2) u9 S)/\N wx gq 74 cs)
 case first=>
  have d0:=B1'.rD 0 Lf;have HI:Hid (Ys n fam h=((decide (fam=0)||decide (h.ad.fam=fam))&&Pc h n)):=jO;by_cases hq:fam=0\/h.ad.fam=fam
  case neg=>
   have q1:(fam !=0)=true:=by simpa using fun c=>hq (.inl c)
   have q2:(h.ad.fam !=fam)=true:=by simpa using fun c=>hq (.inr c)
   have HI2:Hid ((!Ys n fam h)=true):=J (by
    rw[HI.out,decide_eq_false (fun c=>hq (.inl c)),decide_eq_false (fun c=>hq (.inr c))];rfl)
   clear hq HI HAS;go_wp2_with fail;go_meet
   case rel=>exact⟨by rw[HI2.out],HX1,B1'⟩
  have HI2:Hid ((!Ys n fam h)=!Pc h n):=J (by
   rw[HI.out];rcases hq with c|c
   ·rw[decide_eq_true c];rfl
   ·
    rw[decide_eq_true c,Bool.or_true];rfl)
  have HA1:=J (HAS.out cs h B HCE.out HX1.out.ba HK.out);have hq2:fam=0\/((fam !=0)=true/\(h.ad.fam !=fam)=false):=by
   by_cases c:fam=0
   ·exact .inl c
   ·
    refine .inr ⟨by simpa using c,?_⟩;rcases hq with e|e
    ·exact absurd e c
    ·simpa using e
  clear hq HI HAS;rcases hq2 with rfl|⟨q1,q2⟩;all_goals
   go_wp2_with(refine rF (.load 74 (.tmp 12)) I ?_;go_must(refine vR 74 (.tmp 12) I bc gq 0 I B1' 19 Y _ underlying74 I yN cs (uH Y) ?_));refine HA1.out.mono ?_;rintro _ w5 ⟨rfl,b5⟩;have HX5:=J (HX1.out.G b5);have B5:=B1'.G b5 B1'.lt;clear HA1 b5 HX1 B1' d0;go_wp2_with fail;go_meet
   case rel=>exact⟨by rw[HI2.out],HX5,B5⟩
 obtain⟨rfl,HX,Hh⟩:=hcut;obtain⟨w2,rfl⟩:∃w2,w2=wc:=gh;clear HX1 B1' HAS;cases hi:Ys n fam h with
 |false=>
  have HS:Hid (sQ (l.take (k+1)) n fam=S):=J ej;have HX2:Hid (UR w w2 gm (.slice A2 n2 c2) u9 (sQ (l.take (k+1)) n fam)):=J (by rw[HS.out];exact HX.out);have HN3:Hid (n2=(sQ (l.take (k+1)) n fam).1.length):=J eo;clear hi FT HS HX CL hn2;go_wp2_with fail;go_roundw
  case rel=>exact⟨k+1,A2,n2,c2,Y,fQ,I,HN3,HX2⟩
  case measure=>simp[intOf];omega
 |true=>
 have FT2:Hid (sQ (l.take (k+1)) n fam=(if h.ad∈S.1 then S.1 else S.1++[h.ad],if S.1=[]then h.ns.headD []else S.2)):=J ej;clear FT hi;obtain⟨b2,ajQ,ar8,hb2,hr2⟩:=HNS.out.Ma (fun _ _ ⟨_,_,h,_⟩=>by rw[h];rfl) Y;subst ar8;obtain⟨cs0,ahi,Ao,co,rfl,hno⟩:=hr2 0 Y;have ce:=(HX.out.ba.cell (p:=⟨b2,ajQ,none⟩) hb2).trans bY;have d18:=Hh.rD 18 L18;have auV:=HK.out.nn _ (List.getElem_mem (show 0<h.ns.length by omega));have hhd:=Nj (l:=h.ns) [] Y;have HHD:=J hhd;have CL1:=J (CL.out Ao co h.ns[0] w2 (hno.G (rC HW0.out HW0.out.size HX.out.ba)) auV);obtain⟨nm0,ans⟩:∃nm0,h.ns[0]'Y=nm0:=gh;rw[ans]at CL1 ce auV HHD;generalize nm0.length=nml at*;clear hno hhd ahi hr2 ans CL;go_upto_if 37 with fail;go_cut[9] (fun ov wx=>Hid (UR w wx gm (.slice A2 n2 c2) ov (S.1,if S.1=[]then h.ns.headD []else S.2))/\N wx gq 74 cs)
 case first=>
  by_cases h0:n2=0
  case neg=>
   have h0':((n2:Int)==0)=false:=ki;have HX2:Hid (UR w w2 gm (.slice A2 n2 c2) u9 (S.1,if S.1=[]then h.ns.headD []else S.2)):=J (by
    rw[if_neg (fun c=>h0 et)];exact HX.out)
   clear h0;go_wp2_with fail;go_meet
   case rel=>exact⟨HX2,Hh⟩
  have h0':((n2:Int)==0)=true:=ki;have hSn:Hid (S.1=[]):=J (List.length_eq_zero_iff.1 eu);have HIF:Hid ((if S.1=[]then h.ns.headD []else S.2)=nm0):=J (by rw[if_pos hSn.out];exact HHD.out);have auU:(0:Int)<h.ns.length:=Y;have HN2:=J h0;generalize h.ns.length=hnl at*;clear h0;go_wp2_with fail;refine CL1.out.mono ?_;rintro _ w3 ⟨A3,c3,rfl,ho3,b3⟩;have X3:=HX.out.G b3;have HX3:Hid (UR w w3 gm (.slice A2 n2 c2) (.slice A3 nml c3) (S.1,if S.1=[]then h.ns.headD []else S.2)):=J ⟨X3.own,by rw[HIF.out];exact CZ ho3,X3.map,X3.ba⟩;have B3:=Hh.G b3 Hh.lt;clear X3 ho3 b3 CL1 Hh;go_wp2_with fail;go_meet
  case rel=>exact⟨HX3,B3⟩
 obtain⟨HX3,B3⟩:=hcut;obtain⟨w3,rfl⟩:∃w3,w3=wc:=gh;obtain⟨own,ad1⟩:=aq ((if S.1=[]then h.ns.headD []else S.2));rw[ad1.out]at HX3 FT2;clear HX Hh CL1 ce d18 HHD ad1;have haf:=J HK.out.ad;have hdl:=h.ad.rY rB;have hd1:=h.ad.tm;have HLK:=HX3.out.map.look h.ad haf.out;by_cases hm:h.ad∈S.1
 case pos=>
  rw[if_pos hm]at HLK FT2;have HX4:Hid (UR w w3 gm (.slice A2 n2 c2) u9 (sQ (l.take (k+1)) n fam)):=J (by rw[FT2.out];exact HX3.out);have HN4:Hid (n2=(sQ (l.take (k+1)) n fam).1.length):=J ew;clear hm FT2 HX3;go_wp2_with(refine rF (.load 67 (.tmp 44)) I ?_;go_must(refine rG I _ _ I gq 0 I B3 18 Y _ underlying67 I uq h.ad.cells L0 ?_));go_roundw
  case rel=>exact⟨k+1,A2,n2,c2,Y,fQ,I,HN4,HX4⟩
  case measure=>simp[intOf];omega
 rw[if_neg hm]at HLK FT2;clear hm;go_wp2_with(first
  |(refine rF (.load 67 (.tmp 44)) rfl ?_;go_must(refine rG rfl _ _ rfl gq 0 rfl B3 18 Y _ underlying67 rfl uq h.ad.cells L0 ?_))
  |(refine rF (.load 67 (.tmp 49)) rfl ?_;go_must(refine rG rfl _ _ rfl gq 0 rfl B3 18 Y _ underlying67 rfl uq h.ad.cells L0 ?_))
  |(refine rF (.mapUpdate 182 (.tmp 48) (.tmp 50) (.const (.int .i64 1))) rfl ?_;go_must(refine Hr _ rfl _ _ _ rfl gm S.1.length S.1 h.ad rfl rfl rfl HX3.out.map haf.out ey ?_)))
 intro w4 M4 g4;have aBt:gq≠gm:=fun c=>HX3.out.map.Co B3 c.symm
 have B4:=B3.grown g4 (by simpa using aBt);have O4:=rJ.map HX3.out.own g4 (HX3.out.map.OX HX3.out.own);have H4:=rE HX3.out.ba g4 HX3.out.ba.size hgw;have N4:tw w4 u9 own:=World.ownsRow.kept HX3.out.nm g4 (.inr (fun c=>by
  have:=HX3.out.nm;rcases this.2 with⟨hv,_⟩|⟨g',cap,cur,hv,_,hh,_⟩
  ·rw[hv]at c;cases c
  ·
   rw[hv]at c;injection c with c;subst c;obtain⟨D,⟨es,cl,hm,_⟩,_⟩:=HX3.out.map;rw[hh]at hm;cases hm))
 have HM4:=J M4;have HO4:=J O4;have HN4:=J N4;clear HLK HX3 g4 M4 O4 N4 B3;go_wp2_with(first
  |(refine rF (.load 67 (.tmp 52)) rfl ?_;go_must(refine rG rfl _ _ rfl gq 0 rfl B4 18 Y _ underlying67 rfl uq h.ad.cells L0 ?_))
  |(refine rF (.buildSlice 25 1 #[(0,.tmp 53)]) rfl ?_;go_must(refine vQ rfl 25 67 _ 18 32 underlying25 vg K K (.tmp 53) rfl h.ad.cells rfl hdl ?_)))
 intro w5 B5 k5;have O5:uG w5 w.heap.size (.slice A2 n2 c2) S.1:=lX;have M5:=HM4.out.kept (r5 k5 none) ar;have N5:=J (HN4.out.G k5);have H5:=rC H4 H4.size k5;have hl:=rJ.ne HO4.out (Nat.le_refl _);have HO5:=J O5;have HM5:=J M5;clear k5 O5 M5 HO4 HM4 HN4 H4 B4;go_wp2_with(at_builtin;go_must(refine sJ _ I (.tmp 51) (.tmp 54) 25 I 67 _ 18 32 underlying25 vg (by kernel_rfl) K (R:=xH) w.heap.size _ S.1 I HO5.out H5.size _ h.ad.cells h.ad I B5 hl hdl hd1 ⟨I,rB⟩ ey eB ?_));intro v6 w6 O6 g6;have M6:=HM5.out.kept g6 (HM5.out.OX HO5.out);have H6:=H5.grown g6 H5.size (fun k O=>HO5.out.base k O);have N6:tw w6 u9 own:=by obtain⟨css,ho,_⟩:=HO5.out;exact zD N5.out ho K g6
 obtain⟨A6,c6,hv6⟩:=O6.form;have hl6:(S.1++[h.ad]).length=n2+1:=by rw[hn2.out];simp
 have HX6:Hid (UR w w6 gm (.slice A6 (n2+1) c6) u9 (sQ (l.take (k+1)) n fam)):=J (by
  rw[FT2.out];refine⟨?_,N6,?_,H6⟩
  ·rw[hv6,hl6]at O6;exact O6
  ·
   show zT w6 gm (S.1++[h.ad]).length (S.1++[h.ad]);rw[show(S.1++[h.ad]).length=S.1.length+1 by simp];exact M6)
 have HN6:Hid (n2+1=(sQ (l.take (k+1)) n fam).1.length):=J eC;rw[hl6]at hv6;subst hv6;clear M6 H6 N6 O6 g6 HO5 HM5 N5 H5 hl B5 FT2 hl6;go_wp2_with fail;go_roundw
 case rel=>exact⟨k+1,A6,n2+1,c6,Y,fQ,I,HN6,HX6⟩
 case measure=>simp[intOf];omega
theorem V5{q:Qn}(hN:rR q.name=0)(ht:xG 65535 q.Q=true)(hc1:xG 65535 q.cl=true)(id:Int)(e:Bool)(U:0<=id)(F:id<=65535):(tM (ug q id e) false).2=0:=by
 have hq:qE q=0:=by unfold qE;rw[if_neg (by rw[hN];decide),ht,hc1];rfl
 exact m9
theorem Yu(tmo:Int)(vc ed:Bool)(q:Qn)(tr:List sg)(L:Lt)(hN:rR q.name=0)(ht:xG 65535 q.Q=true)(hc:xG 65535 q.cl=true)(htr:0<tr.length):(Dv tmo vc ed q tr L).1.done=false/\(Dv tmo vc ed q tr L).2.2≠[]:=by
 have h0:=V5 hN ht hc 0 ed Y Y;unfold Dv;rw[if_neg (by rw[h0];decide)];unfold Bp;have O:(wY tmo vc ed q tr).k<(wY tmo vc ed q tr).tr.length:=htr;rw[if_pos O];have hd:(wY tmo vc ed q tr).done=false:=rfl;unfold wX;split
 ·refine⟨hd,?_⟩;have U:=EO (wW L 64512).2 (n:=65536) Y;have he:Hu (vV (wY tmo vc ed q tr) L)=0:=V5 hN ht hc _ _ U.1 (by show(wW (wW L 64512).2 65536).1<=65535;omega);show(yM (vV (wY tmo vc ed q tr) L)).2≠[];unfold yM;rw[if_pos he];simp
 ·exact⟨hd,ar⟩
theorem Kf:∀(f:Nat) (p:Pr) (L:Lt) (o:List Ou),(∀x∈p.bg,x∈(tS f p L o).1.bg)/\(o≠[]->(tS f p L o).2.2≠[])
 |0,p,L,o=>⟨fun x hx=>hx,fun h=>h⟩
 |f+1,p,L,o=>by
  unfold tS;split
  ·obtain⟨U,F⟩:=Kf f (Fh p L) (Kt p L).2.1 (o++(Kt p L).2.2);refine⟨fun x hx=>U x (by unfold Fh;simp[hx]),fun h=>F bp⟩
  ·exact⟨fun x hx=>hx,fun h=>h⟩
theorem Gu(r:Rs)(nm:List (List UInt8))(fam turn:Int)(L:Lt)(hN:rR nm=0):yh (Dz r nm (tU fam) turn L).1=false/\(Dz r nm (tU fam) turn L).2.2≠[]:=by
 obtain⟨y1,y2⟩:(∀t∈tU fam,t=1\/t=28)/\0<(tU fam).length:=by
  unfold tU;refine⟨fun t ht=>?_,?_⟩
  ·exact rh
  ·
   by_cases h6:fam=6
   ·subst h6;decide
   ·rw[if_neg h6];simp
 unfold Dz;have Z:(tT (rT r) nm (tU fam) turn).bg.length<(tT (rT r) nm (tU fam) turn).tys.length:=y2;have hw:ya (tT (rT r) nm (tU fam) turn)=false:=lY;rw[Gp _ _ Z hw];have hq:RQ (tT (rT r) nm (tU fam) turn) 0=⟨nm,(tU fam).getD 0 0,1⟩:=rfl;have hty:xG 65535 ((tU fam).getD 0 0)=true:=by rw[List.getD_eq_getElem?_getD,List.getElem?_eq_getElem y2];rcases y1 _ (List.getElem_mem y2)with h|h<;>(simp only[Option.getD_some];rw[h];decide)
 obtain⟨B,w2⟩:=Yu (rT (rT r)).tmo (rT (rT r)).vc (rT (rT r)).ed (RQ (tT (rT r) nm (tU fam) turn) 0) (uy (rT r) (IntKind.i64.wrap (turn+(0:Nat)))) L (by rw[hq];exact hN) (by rw[hq];exact hty) (by rw[hq];show xG 65535 1=true;decide) (by have:=(AM (rT r) (IntKind.i64.wrap (turn+(0:Nat)))).1;omega);obtain⟨k1,k2⟩:=Kf 2 (Fh (tT (rT r) nm (tU fam) turn) L) (Kt (tT (rT r) nm (tU fam) turn) L).2.1 ([]++(Kt (tT (rT r) nm (tU fam) turn) L).2.2);refine⟨?_,k2 (by rw[List.nil_append];exact w2)⟩;have hm:=k1 (Kt (tT (rT r) nm (tU fam) turn) L).1 (by show _∈[]++[(Kt (tT (rT r) nm (tU fam) turn) L).1];simp);unfold yh;have:(tS 2 (Fh (tT (rT r) nm (tU fam) turn) L) (Kt (tT (rT r) nm (tU fam) turn) L).2.1 ([]++(Kt (tT (rT r) nm (tU fam) turn) L).2.2)).1.bg.all (·.done)=false:=by rw[List.all_eq_false];exact⟨_,hm,by rw[show(Kt (tT (rT r) nm (tU fam) turn) L).1.done=false from B];decide⟩
 rw[this];rfl
theorem US{x y:sg}(p q:Operand)(ho:o.op= .binOp .eql 67 p q 67)(hx:a.eval p= .agg x.cells.toArray)(hy:a.eval q= .agg y.cells.toArray)(U:x.ip.length=16)(F:y.ip.length=16)(w:World):(execOp a.eval o).run prog w= .ok (.value (.bool (decide (x=y)))) w:=by
 have hr:=Ey x y U F w;have hg:(eqGuard .eql 67 p q (.agg x.cells.toArray) (.agg y.cells.toArray)).run prog w= .ok () w:=kL;unfold execOp;simp only[ho,hx,hy,Sem.run_bind,hg,run_eql_struct,hr,Result.andThen_ok,Sem.run_pure]
theorem UT{x y:sg}(p q:Operand)(ho:o.op= .binOp .neq 67 p q 67)(hx:a.eval p= .agg x.cells.toArray)(hy:a.eval q= .agg y.cells.toArray)(U:x.ip.length=16)(F:y.ip.length=16)(w:World):(execOp a.eval o).run prog w= .ok (.value (.bool (!decide (x=y)))) w:=by
 have hr:=Ey x y U F w;have hg:(eqGuard .neq 67 p q (.agg x.cells.toArray) (.agg y.cells.toArray)).run prog w= .ok () w:=kL;unfold execOp;simp only[ho,hx,hy,Sem.run_bind,hg,run_neq_struct,hr,Result.andThen_ok,Sem.run_pure]
theorem Yv(A:Option Addr)(c:Nat)(l:List sg)(a:sg)(w:World)(hA:Ua w A l)(ha:a.ip.length=16)(E:l.length<=1000):
  Calls prog 29 #[.slice A l.length c,.agg a.cells.toArray] w (rW (.bool (decide (a∈l))) w):=by
 have hal:=a.rY ha;have HX:Below w.heap.size w (w.alloc (.cells a.cells.toArray 67)):=fZ;have hk:=N.new w 67 a.cells;obtain⟨n,hn⟩:=aq l.length;have HA:=J hA;obtain⟨R,hR⟩:=aq (decide (a∈l));rw[hR.out];rw[hn.out]at E⊢;obtain⟨ac,hac⟩:=aq a.cells;rw[hac.out]at hal HX hk⊢;clear hA;go_enter func29,ntmps29;go_wp2_with fail;obtain⟨W,hW⟩:=aq (w.alloc (.cells ac.toArray 67));rw[hW.out]at HX hk⊢;go_loopw[5] (fun iv wr=>∃k:Nat,k<=n/\iv= .int .i64 k/\Hid (∀i (hi:i<l.length),i<k->¬l[i]=a)/\ao w wr/\N wr w.heap.size 67 ac) (fun iv _=>n-(intOf iv).toNat)
 case atStart=>exact⟨0,Nat.zero_le _,I,J (fun i hi c=>absurd c Y),HX,hk⟩
 clear HX hk;obtain⟨k,O,rfl,HS,HB,BX⟩:=hrel;by_cases aA:k<n
 case pos=>
  have h1:(k:Int)<n:=Y;have hlp:k<l.length:=gM;obtain⟨bk,off,hAk,hbk,ag8⟩:=HA.out Y;obtain⟨cx,hcx,arH,rB⟩:=ag8 k hlp;subst hAk;have HS2:Hid (¬l[k]=a->∀i (hi:i<l.length),i<k+1->¬l[i]=a):=J (fun e i hi c=>by
   by_cases q:i=k
   ·subst q;exact e
   ·
    exact HS.out i hi Y)
  have HT:Hid (l[k]=a->R=true):=J (fun e=>by rw[<-hR.out];exact decide_eq_true (e▸List.getElem_mem hlp));obtain⟨qb,hq⟩:=aq (decide (l[k]=a));clear HS;generalize l[k]=x at*;subst arH;have re:=rN hcx HB hbk;have hwr:=HB.size;have HXA:Hid (∀V,ao wr V->(Instr.loadAt 67 (.pointer (some ⟨w.heap.size,0,none⟩))).run prog V= .ok (.agg ac.toArray) V):=J (fun V hV=>(BX.G hV BX.lt).tW 67 0 18 Y _ underlying67 I uq _ (uH Y));have EQ:Hid (∀{o:Oper} {ax:Act} (p q:Operand),o.op= .binOp .eql 67 p q 67->ax.eval p= .agg x.cells.toArray->ax.eval q= .agg ac.toArray->∀V,(execOp ax.eval o).run prog V= .ok (.value (.bool qb)) V):=J (fun p q ho hx hy V=>by
   rw[<-hac.out]at hy;have:=US p q ho hx hy rB ha V;rwa[hq.out]at this)
  have hxl:=x.rY rB;have HLX:Hid (∀V,ao wr V->(Instr.loadAt 67 (.pointer (some ⟨bk,off+k*18,none⟩))).run prog V= .ok (.agg x.cells.toArray) V):=iL;clear ag8 hcx re hlp;generalize x.cells=xc at*;go_wp2_with fail;refine vp (by kernel_rfl) (by kernel_rfl) ?_
  (refine rK (v:=(.slice (some ⟨bk,off,none⟩) n c)) I (fun W hW=>by first|(go_simp;done)|(go_simp;omega)) ?_;simp only[X])
  (refine rK (v:=(.int .i64 k)) I (fun W hW=>by first|(go_simp;done)|(go_simp;omega)) ?_;simp only[X])
  refine rK (v:=.pointer (some ⟨bk,off+k*18,none⟩)) I (fun W hW=>vi underlying25 uq Y (.tmp 12) (.tmp 13) I I I aA W) ?_;simp only[X];refine tE (v:=.agg xc.toArray) 67 (.tmp 14) I ⟨bk,off+k*18,none⟩ I I (fun V hV=>HLX.out V hV) ?_;simp only[X];refine tE (v:=.agg ac.toArray) 67 (.tmp 3) I ⟨w.heap.size,0,none⟩ I I (fun V hV=>HXA.out V hV) ?_;simp only[X];refine rK (v:=.bool qb) I (fun W hW=>EQ.out (.tmp 15) (.tmp 16) I I I W) ?_;simp only[X];refine wpQuiet_nil ?_;intro w4 b4;have H4:=rC HB hwr b4;have X4:=BX.G b4 BX.lt;clear HXA HLX EQ HB BX b4;cases qb with
  |true=>have hRt:=J (HT.out (of_decide_eq_true hq.out));clear HT HS2;go_wp2_with fail;go_ret;exact rW.mk ei H4
  |false=>
   have HS3:=J (HS2.out (of_decide_eq_false hq.out));clear HT HS2;go_wp2_with fail;go_roundw
   case rel=>exact⟨k+1,Y,fQ,HS3,H4,X4⟩
   case measure=>simp[intOf];omega
 have h1:¬(k:Int)<n:=Y;have hRf:Hid (R=false):=J (by
  rw[<-hR.out];refine decide_eq_false fun e=>?_
  obtain⟨i,hi,he⟩:=List.getElem_of_mem e;exact HS.out i hi (by have:=hn.out;omega) he)
 clear HS;go_wp2_with fail;go_ret;exact rW.mk eh HB
theorem Yw(A Hh:Option Addr)(ca cb:Nat)(l:List sg)(w:World)(hA:Ua w A l)(hB:Ua w Hh l)(E:l.length<=1000):
  Calls prog 17 #[.slice A l.length ca,.slice Hh l.length cb] w (rW (.bool true) w):=by
 have HA:=J hA;have HB:=J hB;obtain⟨n,hn⟩:=aq l.length;rw[hn.out]at E⊢;have hnn:((n:Int) !=(n:Int))=false:=ar;clear hA hB;go_enter func17,ntmps17;go_wp2_with fail;go_loopw[5] (fun iv wr=>∃k:Nat,k<=n/\iv= .int .i64 k/\ao w wr) (fun iv _=>n-(intOf iv).toNat)
 case atStart=>exact⟨0,Nat.zero_le _,I,Below.refl _ _⟩
 obtain⟨k,O,rfl,HW⟩:=hrel;by_cases aA:k<n
 case pos=>
  have h1:(k:Int)<n:=Y;have hlp:k<l.length:=gM;obtain⟨bk,off,hAk,hbk,ag8⟩:=HA.out Y;obtain⟨cx,hcx,arH,rB⟩:=ag8 k hlp;obtain⟨bj,ofj,hBk,hbj,auI⟩:=HB.out Y;obtain⟨cy,hcy,aBL,-⟩:=auI k hlp;subst hAk hBk;generalize l[k]=x at*;subst arH aBL;have re:=rN hcx HW hbk;have rf:=rN hcy HW hbj;have hwr:=HW.size;have hxl:=x.rY rB;have EQ:Hid (∀{o:Oper} {ax:Act} (p q:Operand),o.op= .binOp .neq 67 p q 67->ax.eval p= .agg x.cells.toArray->ax.eval q= .agg x.cells.toArray->∀V,(execOp ax.eval o).run prog V= .ok (.value (.bool false)) V):=J (fun p q ho hx hy V=>by
   have:=UT p q ho hx hy rB rB V;rwa[decide_eq_true I]at this)
  have HLX:Hid (∀V,ao wr V->(Instr.loadAt 67 (.pointer (some ⟨bk,off+k*18,none⟩))).run prog V= .ok (.agg x.cells.toArray) V):=iL;have HLY:Hid (∀V,ao wr V->(Instr.loadAt 67 (.pointer (some ⟨bj,ofj+k*18,none⟩))).run prog V= .ok (.agg x.cells.toArray) V):=J (fun V hV=>uN (rN rf hV (Nat.lt_of_lt_of_le hbj hwr)) underlying67 I eD);clear ag8 auI hcx hcy re rf hlp;generalize x.cells=xc at*;go_wp2_with fail;refine vp (by kernel_rfl) (by kernel_rfl) ?_
  (refine rK (v:=(.slice (some ⟨bk,off,none⟩) n ca)) I (fun W hW=>by first|(go_simp;done)|(go_simp;omega)) ?_;simp only[X])
  (refine rK (v:=(.int .i64 k)) I (fun W hW=>by first|(go_simp;done)|(go_simp;omega)) ?_;simp only[X])
  refine rK (v:=.pointer (some ⟨bk,off+k*18,none⟩)) I (fun W hW=>vi underlying25 uq Y (.tmp 17) (.tmp 18) I I I aA W) ?_;simp only[X];refine tE (v:=.agg xc.toArray) 67 (.tmp 19) I ⟨bk,off+k*18,none⟩ I I (fun V hV=>HLX.out V hV) ?_;simp only[X]
  (refine rK (v:=(.slice (some ⟨bj,ofj,none⟩) n cb)) I (fun W hW=>by first|(go_simp;done)|(go_simp;omega)) ?_;simp only[X])
  (refine rK (v:=(.int .i64 k)) I (fun W hW=>by first|(go_simp;done)|(go_simp;omega)) ?_;simp only[X])
  refine rK (v:=.pointer (some ⟨bj,ofj+k*18,none⟩)) I (fun W hW=>vi underlying25 uq Y (.tmp 21) (.tmp 22) I I I aA W) ?_;simp only[X];refine tE (v:=.agg xc.toArray) 67 (.tmp 23) I ⟨bj,ofj+k*18,none⟩ I I (fun V hV=>HLY.out V hV) ?_;simp only[X];refine rK (v:=.bool false) I (fun W hW=>EQ.out (.tmp 20) (.tmp 24) I I I W) ?_;simp only[X];refine wpQuiet_nil ?_;intro w4 b4;have H4:=rC HW hwr b4;clear HLX HLY EQ HW b4;go_wp2_with fail;go_roundw
  case rel=>exact⟨k+1,Y,fQ,H4⟩
  case measure=>simp[intOf];omega
 have h1:¬(k:Int)<n:=Y;go_wp2_with fail;go_ret;exact rW.mk I HW
theorem Sk(w0:World)(cs:List Value)(h:xC)(A:Option Addr)(c:Nat)(n:List (List UInt8))(w:World)(x:sG w0 w cs h)(hw:ao w0 w)(hN:wA w A c n)(hf:Pd h)(hn8:n.length<=8000000000000):
  Calls prog 28 #[.agg cs.toArray,.slice A n.length c] w (rW (.bool (Pc h n)) w):=by
 have hcl:=x.len;have HX:Below w.heap.size w (w.alloc (.cells cs.toArray 74)):=fZ;have hk:=N.new w 74 cs;obtain⟨v,hcc,rB,hO⟩:=x;obtain⟨Al,cl,hv⟩:=hO.form;subst hv;have hnl:=hf.nl;have HNN:=J hf.nn;have L18:cs[18]?=some (.slice Al h.ns.length cl):=(by rw[hcc,List.getElem?_append_right eg,h.ad.rY rB];rfl);have LI:=J (hO.Ma (fun _ _ ⟨_,_,h,_⟩=>by rw[h];rfl));have HN:=J hN;have HW:=J hw;obtain⟨R,hR⟩:=aq (Pc h n);have HT:=J (fun k (O:k<h.ns.length) (e:tF h.ns[k]=tF n)=>(show R=true by rw[<-hR.out];exact List.any_eq_true.2 ⟨_,List.getElem_mem O,by simpa using e⟩));have HFl:=J (fun(e:∀k (O:k<h.ns.length),¬tF h.ns[k]=tF n)=>(show R=false by
  rw[<-hR.out];refine List.any_eq_false.2 fun m hm=>?_
  obtain⟨k,O,rfl⟩:=List.getElem_of_mem hm;simpa using e k O))
 rw[hR.out];clear hO hN hw hcc rB hR hf;generalize h.ns=l at*;go_enter func28,ntmps28;go_wp2_with fail;obtain⟨W,hW⟩:=aq (w.alloc (.cells cs.toArray 74));rw[hW.out]at hk HX⊢;clear hW;go_loopw[5] (fun iv wr=>∃k:Nat,k<=l.length/\iv= .int .i64 k/\Hid (∀i (hi:i<l.length),i<k->¬tF l[i]=tF n)/\ao w wr/\N wr w.heap.size 74 cs) (fun iv _=>l.length-(intOf iv).toNat)
 case atStart=>exact⟨0,Nat.zero_le _,I,J (fun i hi c=>absurd c Y),HX,hk⟩
 clear HX hk;obtain⟨k,O,rfl,HS,HB,BX⟩:=hrel;have d18:=BX.rD 18 L18;by_cases aA:k<l.length
 case neg=>exact oX
 have h1:(k:Int)<l.length:=Y;obtain⟨b,off,rfl,Z,hr⟩:=LI.out Y;obtain⟨cs0,ahi,An,cn,rfl,hnm⟩:=hr k aA;have ce:=(HB.cell (p:=⟨b,off+k,none⟩) Z).trans bY;have DS:=J (QM An A l[k] n cn c wr (hnm.G (rC HW.out HW.out.size HB)) (HN.out.G HB) (by have:=HNN.out _ (List.getElem_mem aA);omega) hn8);have hn1:=hnm.2.2.1;have HTk:=J (HT.out k aA);have HSk:Hid (¬tF l[k]=tF n->∀i (hi:i<l.length),i<k+1->¬tF l[i]=tF n):=J (fun e i hi c=>by
  by_cases q:i=k
  ·subst q;exact e
  ·
   exact HS.out i hi Y)
 clear hnm hr ahi HT HS;generalize l[k].length=nk at*;go_wp2_with fail;refine DS.out.mono ?_;rintro _ w5 ⟨rfl,b5⟩;have HB5:=rC HB HB.size b5;have BX5:=BX.G b5 BX.lt;clear DS b5 HB ce BX d18;by_cases hq:tF l[k]=tF n
 ·exact pF
 ·
  have HS2:=J (HSk.out hq);rw[decide_eq_false hq];clear hq HTk HSk;go_wp2_with fail;go_roundw
  case rel=>exact⟨k+1,Y,fQ,HS2,HB5,BX5⟩
  case measure=>simp[intOf];omega
def aeg(R:List sg×List (List UInt8))(w:World)(e:Ending)(w':World):Prop:=∃A c Af cf,e= .returned (.tuple #[.slice A R.1.length c,.slice Af R.2.length cf])/\uG w' 0 (.slice A R.1.length c) R.1/\wA w' Af cf R.2/\ao w w'
theorem Yx(w0:World)(A:Option Addr)(c:Nat)(l:List xC)(An:Option Addr)(cn:Nat)(n:List (List UInt8))(fam:Int)(w:World)(hA:wH w 19 (sG w0 w) A l)(hw:ao w0 w)(hN:wA w An cn n)(hf:∀h∈l,Pd h)(E:l.length<=1000)(hn8:n.length<=8000000000000):
  Calls prog 9 #[.slice A l.length c,.slice An n.length cn,.int .i64 fam] w (aeg (sQ l n fam) w):=by
 have HAS:=J (fun cs h W (hc:sG w0 w cs h) (Z:ao w W) (hf:Pd h)=>Sk w0 cs h An cn n W (hc.G Z) (rC hw hw.size Z) (hN.G Z) hf hn8);have HF:=J hf;have HLN:=J (fun k=>Fm n fam (l.take k));have HW0:=J hw;obtain⟨R0,hR0⟩:=aq (sQ l n fam);rw[hR0.out];clear hf hw hN;go_enter func9,ntmps9;go_wp2_with fail;go_loopw[8,9,10] (fun fv ov iv wr=>∃(k:Nat) (A2:Option Addr) (n2 c2:Nat) (Af:Option Addr) (nf cf:Nat),k<=l.length/\iv= .int .i64 k/\fv= .slice A2 n2 c2/\ov= .slice Af nf cf/\Hid (n2=(sQ (l.take k) n fam).1.length)/\Hid (nf=(sQ (l.take k) n fam).2.length)/\Hid (wA w Af cf (sQ (l.take k) n fam).2)/\Hid (uG wr w.heap.size (.slice A2 n2 c2) (sQ (l.take k) n fam).1)/\ao w wr) (fun _ _ iv _=>l.length-(intOf iv).toNat)
 case atStart=>exact⟨0,none,0,0,none,0,0,Nat.zero_le _,I,I,I,J I,J I,J ⟨fun h=>absurd h (by simp[sQ]),by simp[sQ],by simp[sQ],by simp[sQ]⟩,J (rJ.nil _ _ _ _ _),Below.refl _ _⟩
 obtain⟨k,A2,n2,c2,Af,nf,cf,O,rfl,rfl,rfl,hn2,hnf,HN,HO,HB⟩:=hrel;by_cases aA:k<l.length
 case neg=>have h1:¬(k:Int)<l.length:=Y;have e:l.take k=l:=kN;rw[e,hR0.out]at HO hn2 hnf HN;clear HAS HF HLN hA;go_wp2_with fail;go_ret2;have HO:=HO.out;rw[hn2.out]at HO⊢;rw[hnf.out];exact⟨_,_,_,_,I,rJ.zero HO,HN.out.G HB,HB⟩
 have h1:(k:Int)<l.length:=Y;obtain⟨b,off,rfl,Z,hr⟩:=hA Y;obtain⟨cs,hcs,hce⟩:=hr k aA;have axn:=J hcs;have hcs:=rN hcs HB Z;have hcl:=hce.len;have w1:=hce.one;have hfk:=HF.out _ (List.getElem_mem aA);have FT:=J (Nl l n fam k aA);have hln:=HLN.out k;have hwr:=HB.size;obtain⟨h,hh⟩:∃h,l[k]=h:=gh;rw[hh]at hce hfk FT;obtain⟨S,hS⟩:∃S,sQ (l.take k) n fam=S:=gh;rw[hS]at FT hn2 hln hnf HN HO;have aA3:n2<=k:=by rw[hn2.out];refine Nat.le_trans hln ?_;simp;omega
 have HCE:=J (show sG w0 w cs h from hce);obtain⟨vh,hcc,rB,hNs⟩:=hce;obtain⟨Ah,ch,hvh⟩:=hNs.form;subst hvh;have hLa:=h.ad.rY rB;have hra:wr.rangeAt b (off+k*19) h.ad.cells:=fun j v hv=>hcs j v (by
  rw[hcc,List.getElem?_append_left (List.getElem?_eq_some_iff.1 hv).1];exact hv)
 have L18:cs[18]?=some (.slice Ah h.ns.length ch):=by rw[hcc,List.getElem?_append_right Y,hLa];rfl
 have HNS:=J hNs;have HK:=J hfk;have auT:=hfk.n1;have auS:=hfk.nl;clear hln hS hr hA HLN HF hh hcc hNs hfk;have W1:Below wr.heap.size wr (wr.alloc (.cells sg.zero.cells.toArray 67)):=fZ;have Zq:=N.new wr 67 sg.zero.cells;obtain⟨qc,hqc⟩:=aq h.ad.cells;have alf:=h.ad.tm;rw[hqc.out]at hra hLa alf;go_wp2_with(first
  |(refine rF (.load 67 (.tmp 21)) rfl ?_;go_must(refine sr rfl 67 (.tmp 21) rfl b (off+k*19) rfl qc hra _ underlying67 rfl eE ?_))
  |(refine rF (.store 67 (.tmp 11) (.tmp 22)) rfl (ab rfl wr.heap.size 0 qc Zq (by rw[hLa];decide) eE alf ?_)))
 intro B B1 g1 sw;clear sw;have B1':N B wr.heap.size 67 qc:=tH B1 K;have O1:uG B w.heap.size (.slice A2 n2 c2) S.1:=rJ.map (rJ.G HO.out W1 (fun _ _ x=>x)) g1 (fun c=>rJ.ne HO.out (Nat.le_refl _) c.symm);have HB1:=rC HB hwr W1;have H1:=rE HB1 g1 HB1.size hwr;obtain⟨gq,hgq⟩:=aq wr.heap.size;have hgw:w.heap.size<=gq:=lQ;rw[hgq.out]at B1'⊢;have HO1:=J O1;have aiB:=rN axn.out H1 Z;have Lf:qc[0]?=some (.int .i64 h.ad.fam):=by rw[<-hqc.out];rfl
 clear B1 g1 Zq W1 HO O1 HB HB1 hcs hra hgq hwr;go_upto_region 7 with fail;go_cut[39] (fun v wx=>v= .bool (!Ys n fam h)/\N wx gq 67 qc/\Hid (ao B wx))
 case first=>
  have HI:Hid (Ys n fam h=((decide (fam=0)||decide (h.ad.fam=fam))&&Pc h n)):=jO;have HA1:=J (HAS.out cs h B HCE.out H1 HK.out);clear HAS;go_wp2_with(refine rF (.load 74 (.tmp 25)) I ?_;go_must(refine sr I 74 (.tmp 25) I b (off+k*19) I cs aiB _ underlying74 I dc ?_));refine HA1.out.mono ?_;rintro _ w5 ⟨rfl,b5⟩;have B5:=B1'.G b5 B1'.lt;have d0:=B5.rD 0 Lf;have HB5:=J b5;clear HA1 b5 B1' aiB;cases hP:Pc h n with
  |false=>have HI2:Hid ((!Ys n fam h)=true):=J (by rw[HI.out,hP,Bool.and_false];rfl);clear HI hP;exact oB
  |true=>
   by_cases c0:fam=0
   case pos=>
    have HI2:Hid ((!Ys n fam h)=false):=J (by rw[HI.out,hP,decide_eq_true c0];rfl);have q1:(fam !=0)=false:=by simpa using c0
    clear HI hP c0;exact oB
   have q1:(fam !=0)=true:=by simpa using c0
   by_cases cf:h.ad.fam=fam
   case pos=>
    have HI2:Hid ((!Ys n fam h)=false):=J (by rw[HI.out,hP,decide_eq_true cf,Bool.or_true];rfl);have q2:(h.ad.fam !=fam)=false:=by simpa using cf
    clear HI hP c0 cf;exact oB
   have HI2:Hid ((!Ys n fam h)=true):=J (by rw[HI.out,hP,decide_eq_false c0,decide_eq_false cf];rfl);have q2:(h.ad.fam !=fam)=true:=by simpa using cf
   clear HI hP c0 cf;exact oB
 obtain⟨rfl,B2,HB2⟩:=hcut;obtain⟨w2,rfl⟩:∃w2,w2=wc:=gh;have O2:uG w2 w.heap.size (.slice A2 n2 c2) S.1:=rJ.G HO1.out HB2.out (fun _ _ x=>x);have H2:=rC H1 H1.size HB2.out;have HO2:=J O2;clear HO1 HB2 H1 aiB B1' HAS O2;cases hi:Ys n fam h with
 |false=>
  have HS:Hid (sQ (l.take (k+1)) n fam=S):=J ej;have HX2:Hid (uG w2 w.heap.size (.slice A2 n2 c2) (sQ (l.take (k+1)) n fam).1):=J (by rw[HS.out];exact HO2.out);have HN3:Hid (n2=(sQ (l.take (k+1)) n fam).1.length):=J eo;have HN4:Hid (nf=(sQ (l.take (k+1)) n fam).2.length):=J (by rw[HS.out];exact hnf.out);have HN5:Hid (wA w Af cf (sQ (l.take (k+1)) n fam).2):=J (by rw[HS.out];exact HN.out);clear hi FT HS HO2 hn2 hnf HN;go_wp2_with fail;go_roundw
  case rel=>exact⟨k+1,A2,n2,c2,Af,nf,cf,Y,fQ,I,I,HN3,HN4,HN5,HX2,H2⟩
  case measure=>simp[intOf];omega
 |true=>
 have FT2:Hid (sQ (l.take (k+1)) n fam=(if h.ad∈S.1 then S.1 else S.1++[h.ad],if S.1=[]then h.ns.headD []else S.2)):=J ej;clear FT hi;obtain⟨b2,ajQ,ar8,hb2,hr2⟩:=HNS.out.Ma (fun _ _ ⟨_,_,h,_⟩=>by rw[h];rfl) Y;subst ar8;obtain⟨cs0,ahi,Ao,co,rfl,hno⟩:=hr2 0 Y;have ce:=(H2.cell (p:=⟨b2,ajQ,none⟩) hb2).trans bY;have d18:=rN axn.out H2 Z 18 _ L18;have hhd:=Nj (l:=h.ns) [] Y;have HHD:=J hhd;have HNO:=J (hno.G HW0.out);obtain⟨nm0,ans⟩:∃nm0,h.ns[0]'Y=nm0:=gh;rw[ans]at HNO ce HHD;clear hno hhd ahi hr2 ans;obtain⟨own,ad1⟩:=aq ((if S.1=[]then h.ns.headD []else S.2));rw[ad1.out]at FT2;have auU:(0:Int)<h.ns.length:=Y;go_upto_if 42 with fail;go_cut[9] (fun ov wx=>∃Af nf cf,ov= .slice Af nf cf/\Hid (nf=own.length)/\Hid (wA w Af cf own)/\wx=w2)
 case first=>
  by_cases h0:n2=0
  case neg=>
   have h0':((n2:Int)==0)=false:=ki;have HO3:Hid (S.2=own):=J (by rw[<-ad1.out,if_neg (fun c=>h0 et)]);rw[HO3.out]at hnf HN;clear h0;go_wp2_with fail;go_meet
   case rel=>exact⟨Af,nf,cf,I,hnf,HN,I⟩
  have h0':((n2:Int)==0)=true:=ki;have HO3:Hid (nm0=own):=J (by rw[<-ad1.out,if_pos (List.length_eq_zero_iff.1 eu),HHD.out]);rw[HO3.out]at HNO ce;generalize h.ns.length=hnl at*;clear h0;go_wp2_with fail;go_meet
  case rel=>exact⟨Ao,_,co,I,J I,HNO,I⟩
 obtain⟨Af,nf,cf,rfl,hnf,HN,hw3⟩:=hcut;subst hw3;obtain⟨w3,rfl⟩:∃w3,w3=wc:=gh;have HH:=Yv A2 c2 S.1 h.ad w3 (by have:=HO2.out;rw[hn2.out]at this;exact this.Ma (fun _ x y=>by rw[y.1];exact x.rY y.2)) rB eB;rw[<-hn2.out,hqc.out]at HH;replace HH:=J HH;have HQA:Hid (xH qc h.ad):=J ⟨hqc.out.symm,rB⟩;clear ce d18 HHD HNO ad1 hqc auU Lf auT auS;go_wp2_with(refine rF (.load 67 (.tmp 11)) I ?_;go_must(refine rG I _ _ I gq 0 I B2 18 Y _ underlying67 I uq qc (uH Y) ?_));refine HH.out.mono ?_;rintro _ w4 ⟨rfl,b4⟩;have H4:=rC H2 H2.size b4;have B4:=B2.G b4 B2.lt;have O4:uG w4 w.heap.size (.slice A2 n2 c2) S.1:=rJ.G HO2.out b4 (fun _ _ x=>x);have HO4:=J O4;clear HH b4 B2 H2 HO2 O4;by_cases hm:h.ad∈S.1
 case pos=>
  rw[decide_eq_true hm];rw[if_pos hm]at FT2;have HX2:Hid (uG w4 w.heap.size (.slice A2 n2 c2) (sQ (l.take (k+1)) n fam).1):=J (by rw[FT2.out];exact HO4.out);have HN3:Hid (n2=(sQ (l.take (k+1)) n fam).1.length):=J ew;have HN4:Hid (nf=(sQ (l.take (k+1)) n fam).2.length):=J eF;have HN5:Hid (wA w Af cf (sQ (l.take (k+1)) n fam).2):=J eG;clear hm FT2 HO4 hn2 hnf HN;go_wp2_with fail;go_roundw
  case rel=>exact⟨k+1,A2,n2,c2,Af,nf,cf,Y,fQ,I,I,HN3,HN4,HN5,HX2,H4⟩
  case measure=>simp[intOf];omega
 rw[decide_eq_false hm];rw[if_neg hm]at FT2;clear hm;go_wp2_with(first
  |(refine rF (.load 67 (.tmp 11)) rfl ?_;go_must(refine rG rfl _ _ rfl gq 0 rfl B4 18 Y _ underlying67 rfl uq qc (uH Y) ?_))
  |(refine rF (.buildSlice 25 1 #[(0,.tmp 55)]) rfl ?_;go_must(refine vQ rfl 25 67 _ 18 32 underlying25 vg K K (.tmp 55) rfl qc rfl hLa ?_)))
 intro w5 B5 k5;have O5:uG w5 w.heap.size (.slice A2 n2 c2) S.1:=lX;have H5:=rC H4 H4.size k5;have hl:=rJ.ne HO4.out (Nat.le_refl _);have HO5:=J O5;clear k5 O5 HO4 H4 B4;go_wp2_with(at_builtin;go_must(refine sJ _ I (.tmp 54) (.tmp 56) 25 I 67 _ 18 32 underlying25 vg (by kernel_rfl) K (R:=xH) w.heap.size _ S.1 I HO5.out H5.size _ qc h.ad I B5 hl hLa alf HQA.out ey eB ?_));intro v6 w6 O6 g6;have H6:=H5.grown g6 H5.size (fun k O=>HO5.out.base k O);obtain⟨A6,c6,hv6⟩:=O6.form;have hl6:(S.1++[h.ad]).length=n2+1:=by rw[hn2.out];simp
 have HX2:Hid (uG w6 w.heap.size (.slice A6 (n2+1) c6) (sQ (l.take (k+1)) n fam).1):=J (by
  rw[FT2.out];rw[hv6,hl6]at O6;exact O6)
 have HN3:Hid (n2+1=(sQ (l.take (k+1)) n fam).1.length):=J eC;have HN4:Hid (nf=(sQ (l.take (k+1)) n fam).2.length):=J eF;have HN5:Hid (wA w Af cf (sQ (l.take (k+1)) n fam).2):=J eG;rw[hl6]at hv6;subst hv6;clear O6 g6 HO5 H5 hl B5 FT2 hl6 hnf HN;go_wp2_with fail;go_roundw
 case rel=>exact⟨k+1,A6,n2+1,c6,Af,nf,cf,Y,fQ,I,I,HN3,HN4,HN5,HX2,H6⟩
 case measure=>simp[intOf];omega
end Go.Proofs.YtakkipnmpmobbaaGreat
