/-
  Layer 13,the reference:Get of SOA;any.
-/
import Derived.Test.YthnbcmlnpdabhaaGreatHLz
namespace Go.Proofs.YthnbcmlnpdabhaaGreat
open _root_.Go.Proofs.Tryz
set_option maxHeartbeats 8000000
open Go.RowKit
set_option maxRecDepth 100000
set_option linter.unusedVariables false
set_option linter.unusedSimpArgs false
def PY(L:List Value)(s:List UInt8)(q k:Nat):List Value:=L.take 27++uF ((zh s q).take k)++L.drop (27+k)
theorem SX(L:List Value)(s:List UInt8)(q k:Nat)(hl:L.length=33)(O:k<=5):(PY L s q k).length=33:=by
 have:(zh s q).length=5:=rfl;simp[PY,uF,hl,this];omega
theorem XE(L:List Value)(s:List UInt8)(q:Nat):PY L s q 0=L:=by simp[PY,uF]
theorem UL(s:List UInt8)(q k:Nat)(O:k<5):(zh s q)[k]?=some (uN ((s.drop (q+4*k)).take 4):Int):=by
 match k,O with
 |0,_=>rfl
 |1,_=>rfl
 |2,_=>rfl
 |3,_=>rfl
 |4,_=>rfl
theorem XF(L:List Value)(s:List UInt8)(q k:Nat)(hl:L.length=33)(O:k<5):(PY L s q k).set (27+k) (.int .i64 (uN ((s.drop (q+4*k)).take 4):Int))=PY L s q (k+1):=by
 have h0:(zh s q).length=5:=rfl;have U:(L.take 27).length=27:=np;have X:(uF ((zh s q).take k)).length=k:=by simp[uF,h0];omega
 have h3:L.drop (27+k)=L[27+k]'I::L.drop (27+(k+1)):=l6;have h4:(zh s q).take (k+1)=(zh s q).take k++[(uN ((s.drop (q+4*k)).take 4):Int)]:=by rw[List.take_add_one,UL s q k O];rfl
 unfold PY;rw[List.append_assoc,List.set_append_right (h:=by omega),U,Nat.add_sub_cancel_left,List.set_append_right (h:=by omega),X,Nat.sub_self,h3,List.set_cons_zero,h4];simp[uF,List.append_assoc]
theorem ab2(m:List UInt8)(a n:Nat)(E N:Int)(w:World)(hm:a+n<=m.length)(hl:m.length<=4000000)(O:uo E N=6):
  Calls prog 182 #[.string (bs m),.int .i64 a,.int .i64 n,.int .i64 E,.int .i64 N] w (FZ (Le (m.take (a+n)) a) w):=by
 have hb:=Y (fun w=>uU E N w);rw[O]at hb;clear O;have agu:vG.length=33:=jG;have hSl:(m.take (a+n)).length=a+n:=az;have hS4:(m.take (a+n)).length<=4000000:=I;obtain⟨aek,hO⟩:=ao (Le (m.take (a+n)) a);rw[hO.out];rcases yk (m.take (a+n)) a with⟨l,p,U,X,h3,h4,h5⟩|⟨x,U,X,h3,h4⟩
 case inr=>
  have tM:=Y (fun w=>Ea U w hS4);obtain rfl:aek= .error (if x=1 then 5 else x):=by rw[<-hO.out];unfold Le;rw[X]
  generalize(if x=1 then 5 else x)=y at*;have hyz:=h4.nz;have hye:(y==0)=false:=mu;have hx:=h4.ne;clear hO U X h3 h4 hSl hS4;obtain⟨k1,k2,k3,k4,k5,hs0⟩:=GU (m:=m) (a:=a) n n J I;obtain⟨aeR,HW,C10,C12,CB,CS⟩:=zB w;replace CS:w.heap.size+2<=aeR.heap.size:=I;rw[<-HW.out]at C10 C12 CB CS;clear HW;go_enter func182,ntmps182;go_wp2_with(refine tO (.store 119 (.tmp 13) (.tmp 56)) J (ab J (w.heap.size+1) 0 vG C12 bi cD vW ?_));intro W B12 g1 _;replace B12:Z W (w.heap.size+1) 119 vG:=B12;have B10:=C10.grown g1 ap;have HB:=tN CB g1 I I;clear C10 C12 CB g1 CS;go_wp2_with fail;refine(hb.out W).mono ?_;rintro _ w1 ⟨rfl,rfl⟩;clear hb;generalize m.take (a+n)=S at*;go_wp2_with fail;refine(tM.out _).mono ?_;rintro _ w1 ⟨v,rfl,hT,b1⟩;have B1:=B12.G b1 B12.lt;have A1:=B10.G b1 B10.lt;have HB1:=tL HB HB.size b1;obtain⟨A,c,hv,-,-⟩:=hT.form;subst hv;clear b1 tM B12 B10 HB;go_wp2_with(refine tO (.store 26 (.tmp 161) (.tmp 160)) J (af J (w.heap.size+1) 22 _ B1 I vh ?_));intro w2 B2 g2 _;have A2:=A1.grown g2 ap;have hk:=tN HB1 g2 HB1.size I;clear g2 B1 A1 HB1 B2 hT;go_wp2_with fail;go_loopw[15,29] (fun ev iv wr=>iv= .int .i64 0/\wr=w2) (fun _ _ _=>0)
  case atStart=>exact⟨J,J⟩
  obtain⟨rfl,rfl⟩:=hrel;exact oI
 have tM:=Y (fun w=>D8 U w hS4);rcases yk (m.take (a+n)) p with⟨l',q,k1,k2,k3,kg,ks⟩|⟨x,k1,k2,k3,k4⟩
 case inr=>
  have h2:=Y (fun w=>Ea k1 w hS4);obtain rfl:aek= .error (if x=1 then 5 else x):=by rw[<-hO.out];unfold Le;rw[X];simp only;rw[k2]
  generalize(if x=1 then 5 else x)=y at*;have hyz:=k4.nz;have hye:(y==0)=false:=by simpa using k4.ne
  have hx:=k4.ne;clear hO U X h3 k1 k2 k3 k4 hSl hS4;obtain⟨k1,k2,k3,k4,k5,hs0⟩:=GU (m:=m) (a:=a) n n J I;obtain⟨aeR,HW,C10,C12,CB,CS⟩:=zB w;replace CS:w.heap.size+2<=aeR.heap.size:=I;rw[<-HW.out]at C10 C12 CB CS;clear HW;go_enter func182,ntmps182;go_wp2_with(refine tO (.store 119 (.tmp 13) (.tmp 56)) J (ab J (w.heap.size+1) 0 vG C12 bi cD vW ?_));intro W B12 g1 _;replace B12:Z W (w.heap.size+1) 119 vG:=B12;have B10:=C10.grown g1 ap;have HB:=tN CB g1 I I;clear C10 C12 CB g1 CS;go_wp2_with fail;refine(hb.out W).mono ?_;rintro _ w1 ⟨rfl,rfl⟩;clear hb;generalize m.take (a+n)=S at*;go_wp2_with fail;refine(tM.out _).mono ?_;rintro _ w1 ⟨v,rfl,hT,b1⟩;have B1:=B12.G b1 B12.lt;have A1:=B10.G b1 B10.lt;have HB1:=tL HB HB.size b1;obtain⟨A,c,hv,-,-⟩:=hT.form;subst hv;clear b1 tM B12 B10 HB;have nv0:=zK.mk' hT h4 h5;clear hT;go_wp2_with(refine tO (.store 26 (.tmp 161) (.tmp 160)) J (af J (w.heap.size+1) 22 (.slice A l.length c) B1 I vh ?_));intro w2 B2 g2 _;have A2:=A1.grown g2 ap;have hk:=tN HB1 g2 HB1.size I;clear g2 B1 A1 HB1;go_wp2_with fail;refine(h2.out _).mono ?_;rintro _ w3 ⟨v',rfl,hT',b3⟩;have B3:=B2.G b3 B2.lt;have A3:=A2.G b3 A2.lt;have HB3:=tL hk hk.size b3;obtain⟨A',c',hv',-,-⟩:=hT'.form;subst hv';clear b3 h2 B2 A2 hk hT' nv0;go_wp2_with(refine tO (.store 26 (.tmp 174) (.tmp 173)) J (af J (w.heap.size+1) 23 _ B3 bY vh ?_));intro w4 B4 g4 _;have A2:=A3.grown g4 ap;have hk:=tN HB3 g4 HB3.size I;clear g4 B3 A3 HB3 B4;go_wp2_with fail;go_loopw[15,29] (fun ev iv wr=>iv= .int .i64 0/\wr=w4) (fun _ _ _=>0)
  case atStart=>exact⟨J,J⟩
  obtain⟨rfl,rfl⟩:=hrel;exact oI
 have h2:=Y (fun w=>D8 k1 w hS4);by_cases hq:q+20=(m.take (a+n)).length
 case neg=>
  obtain rfl:aek= .error 5:=by rw[<-hO.out];unfold Le;rw[X];simp only;rw[k2];simp only;rw[if_neg hq]
  have arM:(((((m.take (a+n)).length:Nat):Int)-q) !=20)=true:=ju;have hql:(q:Int)<=((m.take (a+n)).length:Nat):=I;have hsb:((m.take (a+n)).length:Int)<=4000000:=I;clear hO U X h3 k1 k2 k3 hS4 hSl hq;obtain⟨k1,k2,k3,k4,k5,hs0⟩:=GU (m:=m) (a:=a) n n J I;obtain⟨aeR,HW,C10,C12,CB,CS⟩:=zB w;replace CS:w.heap.size+2<=aeR.heap.size:=I;rw[<-HW.out]at C10 C12 CB CS;clear HW;go_enter func182,ntmps182;go_wp2_with(refine tO (.store 119 (.tmp 13) (.tmp 56)) J (ab J (w.heap.size+1) 0 vG C12 bi cD vW ?_));intro W B12 g1 _;replace B12:Z W (w.heap.size+1) 119 vG:=B12;have B10:=C10.grown g1 ap;have HB:=tN CB g1 I I;clear C10 C12 CB g1 CS;go_wp2_with fail;refine(hb.out W).mono ?_;rintro _ w1 ⟨rfl,rfl⟩;clear hb;generalize m.take (a+n)=S at*;go_wp2_with fail;refine(tM.out _).mono ?_;rintro _ w1 ⟨v,rfl,hT,b1⟩;have B1:=B12.G b1 B12.lt;have A1:=B10.G b1 B10.lt;have HB1:=tL HB HB.size b1;obtain⟨A,c,hv,-,-⟩:=hT.form;subst hv;clear b1 tM B12 B10 HB;have nv0:=zK.mk' hT h4 h5;clear hT;go_wp2_with(refine tO (.store 26 (.tmp 161) (.tmp 160)) J (af J (w.heap.size+1) 22 (.slice A l.length c) B1 I vh ?_));intro w2 B2 g2 _;have A2:=A1.grown g2 ap;have hk:=tN HB1 g2 HB1.size I;clear g2 B1 A1 HB1;go_wp2_with fail;refine(h2.out _).mono ?_;rintro _ w3 ⟨v',rfl,hT',b3⟩;have B3:=B2.G b3 B2.lt;have A3:=A2.G b3 A2.lt;have HB3:=tL hk hk.size b3;obtain⟨A',c',hv',-,-⟩:=hT'.form;subst hv';clear b3 h2 B2 A2 hk hT' nv0;go_wp2_with(refine tO (.store 26 (.tmp 174) (.tmp 173)) J (af J (w.heap.size+1) 23 _ B3 bY vh ?_));intro w4 B4 g4 _;have A2:=A3.grown g4 ap;have hk:=tN HB3 g4 HB3.size I;clear g4 B3 A3 HB3 B4;go_wp2_with fail;go_loopw[15,29] (fun ev iv wr=>iv= .int .i64 0/\wr=w4) (fun _ _ _=>0)
  case atStart=>exact⟨J,J⟩
  obtain⟨rfl,rfl⟩:=hrel;have hx:(5:Int)≠0:=ax;go_wp2_with(refine tO (.store 119 (.tmp 10) (.tmp 215)) J (ab J w.heap.size 0 vG A2 bi cD vW ?_));exact oE
 obtain⟨r,hr⟩:∃r:RR,r={RR.zero with tg:=l,ml:=l',h1:=zh (m.take (a+n)) q}:=gp;obtain rfl:aek= .ok r:=by rw[<-hO.out,hr];unfold Le;rw[X];simp only;rw[k2];simp only;rw[if_pos hq]
 have arM:(((((m.take (a+n)).length:Nat):Int)-q) !=20)=false:=by rw[<-hq];simp;omega
 have hql:(q:Int)<=((m.take (a+n)).length:Nat):=I;have hsb:((m.take (a+n)).length:Int)<=4000000:=I;clear hO U X h3 k1 k2 k3 hS4 hSl;obtain⟨k1,k2,k3,k4,k5,hs0⟩:=GU (m:=m) (a:=a) n n J I;obtain⟨aeR,HW,C10,C12,CB,CS⟩:=zB w;replace CS:w.heap.size+2<=aeR.heap.size:=I;rw[<-HW.out]at C10 C12 CB CS;clear HW;go_enter func182,ntmps182;go_wp2_with(refine tO (.store 119 (.tmp 13) (.tmp 56)) J (ab J (w.heap.size+1) 0 vG C12 bi cD vW ?_));intro W B12 g1 _;replace B12:Z W (w.heap.size+1) 119 vG:=B12;have B10:=C10.grown g1 ap;have HB:=tN CB g1 I I;clear C10 C12 CB g1 CS;go_wp2_with fail;refine(hb.out W).mono ?_;rintro _ w1 ⟨rfl,rfl⟩;clear hb;generalize m.take (a+n)=S at*;go_wp2_with fail;refine(tM.out _).mono ?_;rintro _ w1 ⟨v,rfl,hT,b1⟩;have B1:=B12.G b1 B12.lt;have A1:=B10.G b1 B10.lt;have HB1:=tL HB HB.size b1;obtain⟨A,c,hv,-,-⟩:=hT.form;subst hv;clear b1 tM B12 B10 HB;have nv0:=zK.mk' hT h4 h5;clear hT;go_wp2_with(refine tO (.store 26 (.tmp 161) (.tmp 160)) J (af J (w.heap.size+1) 22 (.slice A l.length c) B1 I vh ?_));intro w2 B2 g2 _;have A2:=A1.grown g2 ap;have hk:=tN HB1 g2 HB1.size I;replace nv0:=nv0.ue (ug.uG g2 B1 ax);clear g2 B1 A1 HB1;go_wp2_with fail;refine(h2.out _).mono ?_;rintro _ w3 ⟨v',rfl,hT',b3⟩;have B3:=B2.G b3 B2.lt;have A3:=A2.G b3 A2.lt;have HB3:=tL hk hk.size b3;replace nv0:=nv0.ue (ug.G b3);have nv1:=zK.mk' hT' kg ks;obtain⟨A',c',hv',-,-⟩:=hT'.form;subst hv';clear b3 h2 B2 A2 hk hT';go_wp2_with(refine tO (.store 26 (.tmp 174) (.tmp 173)) J (af J (w.heap.size+1) 23 (.slice A' l'.length c') B3 bY vh ?_));intro w4 B4 g4 _;have A4:=A3.grown g4 ap;have HB4:=tN HB3 g4 HB3.size I;replace nv0:=nv0.ue (ug.uG g4 B3 ax);replace nv1:=nv1.ue (ug.uG g4 B3 ax);clear g4 B3 A3 HB3;obtain⟨LL,hLL⟩:∃LL,LL=(vG.set 22 (.slice A l.length c)).set 23 (.slice A' l'.length c'):=gp;rw[<-hLL]at B4;have aiG:LL.length=33:=iw;have HLL:=Y hLL;have HQ:=Y hq;have HR:=Y hr;clear hLL hq hr;go_wp2_with fail;go_loopw[15,29] (fun ev iv wr=>∃k:Nat,k<=5/\iv= .int .i64 k/\ev= .int .i64 ((q+4*k:Nat):Int)/\Z wr (w.heap.size+1) 119 (PY LL S q k)/\Z wr w.heap.size 119 vG/\al w wr/\ug w4 wr) (fun _ iv _=>5-(intOf iv).toNat)
 case atStart=>exact⟨0,I,J,J,by rw[XE];exact B4,A4,HB4,ug.refl _⟩
 clear B4 A4 HB4;obtain⟨k,O,rfl,rfl,B4,A4,HB4,S4⟩:=hrel;by_cases Hh:k<5
 case pos=>
  have tQ:(k:Int)<5:=I;have hqb:q+4*k+4<=S.length:=by have:=HQ.out;omega
  have NS:=Y (XF LL S q k aiG Hh);have nl:=SX LL S q k aiG O;have hce:(S.take (q+4*k+4)).drop (q+4*k)=(S.drop (q+4*k)).take 4:=by rw[List.drop_take,Nat.add_sub_cancel_left]
  have NN:=Y (fun w=>Ap ((S.take (q+4*k+4)).drop (q+4*k)) (by rw[hce];simp;omega) w);rw[<-hce]at NS;clear hce;obtain⟨e,he⟩:∃e,e=q+4*k:=gp;rw[<-he]at hqb NS NN⊢;have HE:=Y he;clear he;have he4:(e:Int)+4<=(S.length:Nat):=I;have te4:((e:Int)+4).toNat=e+4:=I;obtain⟨x,hx⟩:=ao (uN ((S.take (e+4)).drop e));rw[hx.out]at NN NS;go_wp2_with fail;refine(NN.out _).mono ?_;rintro _ w5 ⟨rfl,rfl⟩;go_wp2_with(refine tO (.store 3 (.tmp 202) (.tmp 200)) J (af J (w.heap.size+1) (27+k) (.int .i64 (x:Int)) B4 I uB ?_));intro w6 B6 g6 _;rw[NS.out]at B6;have A6:=A4.grown g6 ap;have HB6:=tN HB4 g6 HB4.size I;have S6:=S4.trans (ug.uG g6 B4 ax);clear B4 A4 HB4 S4 g6 NS NN nl;go_wp2_with fail;go_roundw
  case rel=>exact⟨k+1,I,fU,by rw[show((q+4*(k+1):Nat):Int)=(e:Int)+4 from by have:=HE.out;omega],B6,A6,HB6,S6⟩
  case measure=>simp[intOf];omega
 obtain rfl:k=5:=I;have tQ:¬((5:Nat):Int)<5:=I;have hE:q+4*5=S.length:=by have:=HQ.out;omega
 rw[hE];obtain⟨L,hL⟩:∃L,L=PY LL S q 5:=gp;rw[<-hL]at B4;have ll:L.length=33:=by rw[hL];exact SX LL S q 5 aiG I
 replace hL:L=vy tS (.slice A l.length c) (.slice A' l'.length c') r:=by rw[hL,HLL.out,HR.out];rfl
 have l1:Hid (∀v∈L,v.oneCell'=true):=Y bZ;have OW:Hid (∀w',ug wr w'->wR w' L r):=Y (fun w' M=>⟨tS,_,_,hL,by rw[HR.out];exact⟨J,J⟩,by rw[HR.out];exact zK.nil _,by rw[HR.out];exact(nv0.ue S4).ue M,by rw[HR.out];exact(nv1.ue S4).ue M,by rw[HR.out];simp[RR.zero]⟩);have B2:=B4;have A2:=A4;have hk:=HB4;clear hL hE nv0 nv1 HLL aiG HQ HR S4 B4 A4 HB4 arM hql hsb Hh;go_wp2_with(first
  |(refine tO (.load 119 (.tmp 13)) rfl ?_;go_must(refine tP rfl _ _ rfl (w.heap.size+1) 0 rfl B2 33 I _ underlying119 rfl uu L (wg I) ?_))
  |(refine tO (.store 119 (.tmp 10) (.tmp 217)) rfl (ab rfl w.heap.size 0 L A2 bi cf l1.out ?_)))
 exact ox
theorem ab3(m:List UInt8)(a n:Nat)(E N:Int)(w:World)(hm:a+n<=m.length)(hl:m.length<=4000000):
  Calls prog 182 #[.string (bs m),.int .i64 a,.int .i64 n,.int .i64 E,.int .i64 N] w (FZ (yn m a n E N) w):=by
 have hd:((m.take (a+n)).drop a).length=n:=az;rcases Jr E N with h|h|h|h|h|h|h
 ·
  by_cases hn:n=4
  ·have:=VR 1 4 (.inl ⟨J,J⟩) m a n E N w hm hl h cF;exact rq
  ·have:=Mm 1 (.inl J) m a n E N w hm hl h cG;exact tn
 ·
  have U:¬uo E N=1:=I;by_cases hn:n=16
  ·have:=VR 28 6 (.inr ⟨J,J⟩) m a n E N w hm hl h cF;exact qy
  ·have:=Mm 28 (.inr J) m a n E N w hm hl h cG;exact tp
 ·have:=SW 5 (.inl J) m a n E N w hm hl h _ J;exact qn
 ·have:=SW 12 (.inr J) m a n E N w hm hl h _ J;exact qm
 ·
  by_cases hn:n<6
  ·have:=UK m a n E N w hm hl h hn;exact tq
  ·have:=ab1 m a n E N w hm hl h I _ J;exact pn
 ·have:=ab2 m a n E N w hm hl h;exact qY
 ·have:=abY m a n E N w hm hl h;exact qL
end Go.Proofs.YthnbcmlnpdabhaaGreat
