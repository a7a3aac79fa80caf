/-
  Layer 13,the reference:Get of SOA;any.
-/
import Derived.Test.YthnbcmlnpdabhaaGreatHLq
namespace Go.Proofs.YthnbcmlnpdabhaaGreat
open _root_.Go.Proofs.Tryz
set_option maxHeartbeats 8000000
open Go.RowKit
set_option maxRecDepth 100000
set_option linter.unusedVariables false
set_option linter.unusedSimpArgs false
def QI(L:List Value)(s:List UInt8)(q k:Nat):List Value:=L.take 27++vi ((zL s q).take k)++L.drop (27+k)
theorem TZ(L:List Value)(s:List UInt8)(q k:Nat)(hl:L.length=33)(z:k<=5):(QI L s q k).length=33:=by
 have:(zL s q).length=5:=rfl;simp[QI,vi,hl,this];omega
theorem YA(L:List Value)(s:List UInt8)(q:Nat):QI L s q 0=L:=by simp[QI,vi]
theorem VD(s:List UInt8)(q k:Nat)(z:k<5):(zL s q)[k]?=some (vw ((s.drop (q+4*k)).take 4):Int):=by
 match k,z with
 |0,_=>rfl
 |1,_=>rfl
 |2,_=>rfl
 |3,_=>rfl
 |4,_=>rfl
theorem YB(L:List Value)(s:List UInt8)(q k:Nat)(hl:L.length=33)(z:k<5):(QI L s q k).set (27+k) (.int .i64 (vw ((s.drop (q+4*k)).take 4):Int))=QI L s q (k+1):=by
 have h0:(zL s q).length=5:=rfl;have U:(L.take 27).length=27:=nR;have X:(vi ((zL s q).take k)).length=k:=by simp[vi,h0];omega
 have h3:L.drop (27+k)=L[27+k]'I::L.drop (27+(k+1)):=mw;have h4:(zL s q).take (k+1)=(zL s q).take k++[(vw ((s.drop (q+4*k)).take 4):Int)]:=by rw[List.take_add_one,VD s q k z];rfl
 unfold QI;rw[List.append_assoc,List.set_append_right (h:=by omega),U,Nat.add_sub_cancel_left,List.set_append_right (h:=by omega),X,Nat.sub_self,h3,List.set_cons_zero,h4];simp[vi,List.append_assoc]
theorem acR(m:List UInt8)(a n:Nat)(O N:Int)(w:World)(hm:a+n<=m.length)(hl:m.length<=4000000)(z:uQ O N=6):
  Calls prog 182 #[.string (bs m),.int .i64 a,.int .i64 n,.int .i64 O,.int .i64 N] w (GN (Mg (m.take (a+n)) a) w):=by
 have hb:=Y (fun w=>vF O N w);rw[z]at hb;clear z;have ahb:wm.length=33:=jV;have hSl:(m.take (a+n)).length=a+n:=aA;have hS4:(m.take (a+n)).length<=4000000:=I;obtain⟨aeI,hO⟩:=ao (Mg (m.take (a+n)) a);rw[hO.out];rcases yI (m.take (a+n)) a with⟨l,p,U,X,h3,h4,h5⟩|⟨x,U,X,h3,h4⟩
 case inr=>
  have ae:=Y (fun w=>EJ U w hS4);obtain rfl:aeI= .error (if x=1 then 5 else x):=by rw[<-hO.out];unfold Mg;rw[X]
  generalize(if x=1 then 5 else x)=y at*;have hyz:=h4.nz;have hye:(y==0)=false:=mK;have hx:=h4.ne;clear hO U X h3 h4 hSl hS4;obtain⟨k1,k2,k3,k4,k5,hs0⟩:=Hz (m:=m) (a:=a) n n J I;obtain⟨afz,HW,C10,C12,CB,CS⟩:=zZ w;replace CS:w.heap.size+2<=afz.heap.size:=I;rw[<-HW.out]at C10 C12 CB CS;clear HW;go_enter func182,ntmps182;go_wp2_with(refine ur (.store 119 (.tmp 13) (.tmp 56)) J (ab J (w.heap.size+1) 0 wm C12 bj cD wJ ?_));intro W B12 g1 _;replace B12:F W (w.heap.size+1) 119 wm:=B12;have B10:=C10.grown g1 ap;have HB:=uq CB g1 I I;clear C10 C12 CB g1 CS;go_wp2_with fail;refine(hb.out W).mono ?_;rintro _ w1 ⟨rfl,rfl⟩;clear hb;generalize m.take (a+n)=S at*;go_wp2_with fail;refine(ae.out _).mono ?_;rintro _ w1 ⟨v,rfl,hT,b1⟩;have B1:=B12.G b1 B12.lt;have A1:=B10.G b1 B10.lt;have HB1:=um HB HB.size b1;obtain⟨A,c,hv,-,-⟩:=hT.form;subst hv;clear b1 ae B12 B10 HB;go_wp2_with(refine ur (.store 26 (.tmp 161) (.tmp 160)) J (af J (w.heap.size+1) 22 _ B1 I vO ?_));intro w2 B2 g2 _;have A2:=A1.grown g2 ap;have ty:=uq HB1 g2 HB1.size I;clear g2 B1 A1 HB1 B2 hT;go_wp2_with fail;go_loopw[15,29] (fun ev iv wr=>iv= .int .i64 0/\wr=w2) (fun _ _ _=>0)
  case atStart=>exact⟨J,J⟩
  obtain⟨rfl,rfl⟩:=hrel;exact ph
 have ae:=Y (fun w=>EI U w hS4);rcases yI (m.take (a+n)) p with⟨l',q,k1,k2,k3,kg,ks⟩|⟨x,k1,k2,k3,k4⟩
 case inr=>
  have ul:=Y (fun w=>EJ k1 w hS4);obtain rfl:aeI= .error (if x=1 then 5 else x):=by rw[<-hO.out];unfold Mg;rw[X];simp only;rw[k2]
  generalize(if x=1 then 5 else x)=y at*;have hyz:=k4.nz;have hye:(y==0)=false:=by simpa using k4.ne
  have hx:=k4.ne;clear hO U X h3 k1 k2 k3 k4 hSl hS4;obtain⟨k1,k2,k3,k4,k5,hs0⟩:=Hz (m:=m) (a:=a) n n J I;obtain⟨afz,HW,C10,C12,CB,CS⟩:=zZ w;replace CS:w.heap.size+2<=afz.heap.size:=I;rw[<-HW.out]at C10 C12 CB CS;clear HW;go_enter func182,ntmps182;go_wp2_with(refine ur (.store 119 (.tmp 13) (.tmp 56)) J (ab J (w.heap.size+1) 0 wm C12 bj cD wJ ?_));intro W B12 g1 _;replace B12:F W (w.heap.size+1) 119 wm:=B12;have B10:=C10.grown g1 ap;have HB:=uq CB g1 I I;clear C10 C12 CB g1 CS;go_wp2_with fail;refine(hb.out W).mono ?_;rintro _ w1 ⟨rfl,rfl⟩;clear hb;generalize m.take (a+n)=S at*;go_wp2_with fail;refine(ae.out _).mono ?_;rintro _ w1 ⟨v,rfl,hT,b1⟩;have B1:=B12.G b1 B12.lt;have A1:=B10.G b1 B10.lt;have HB1:=um HB HB.size b1;obtain⟨A,c,hv,-,-⟩:=hT.form;subst hv;clear b1 ae B12 B10 HB;have nv0:=AB.mk' hT h4 h5;clear hT;go_wp2_with(refine ur (.store 26 (.tmp 161) (.tmp 160)) J (af J (w.heap.size+1) 22 (.slice A l.length c) B1 I vO ?_));intro w2 B2 g2 _;have A2:=A1.grown g2 ap;have ty:=uq HB1 g2 HB1.size I;clear g2 B1 A1 HB1;go_wp2_with fail;refine(ul.out _).mono ?_;rintro _ w3 ⟨v',rfl,hT',b3⟩;have B3:=B2.G b3 B2.lt;have A3:=A2.G b3 A2.lt;have HB3:=um ty ty.size b3;obtain⟨A',c',hv',-,-⟩:=hT'.form;subst hv';clear b3 ul B2 A2 ty hT' nv0;go_wp2_with(refine ur (.store 26 (.tmp 174) (.tmp 173)) J (af J (w.heap.size+1) 23 _ B3 bY vO ?_));intro w4 B4 g4 _;have A2:=A3.grown g4 ap;have ty:=uq HB3 g4 HB3.size I;clear g4 B3 A3 HB3 B4;go_wp2_with fail;go_loopw[15,29] (fun ev iv wr=>iv= .int .i64 0/\wr=w4) (fun _ _ _=>0)
  case atStart=>exact⟨J,J⟩
  obtain⟨rfl,rfl⟩:=hrel;exact ph
 have ul:=Y (fun w=>EI k1 w hS4);by_cases hq:q+20=(m.take (a+n)).length
 case neg=>
  obtain rfl:aeI= .error 5:=by rw[<-hO.out];unfold Mg;rw[X];simp only;rw[k2];simp only;rw[if_neg hq]
  have asD:(((((m.take (a+n)).length:Nat):Int)-q) !=20)=true:=jD;have hql:(q:Int)<=((m.take (a+n)).length:Nat):=I;have hsb:((m.take (a+n)).length:Int)<=4000000:=I;clear hO U X h3 k1 k2 k3 hS4 hSl hq;obtain⟨k1,k2,k3,k4,k5,hs0⟩:=Hz (m:=m) (a:=a) n n J I;obtain⟨afz,HW,C10,C12,CB,CS⟩:=zZ w;replace CS:w.heap.size+2<=afz.heap.size:=I;rw[<-HW.out]at C10 C12 CB CS;clear HW;go_enter func182,ntmps182;go_wp2_with(refine ur (.store 119 (.tmp 13) (.tmp 56)) J (ab J (w.heap.size+1) 0 wm C12 bj cD wJ ?_));intro W B12 g1 _;replace B12:F W (w.heap.size+1) 119 wm:=B12;have B10:=C10.grown g1 ap;have HB:=uq CB g1 I I;clear C10 C12 CB g1 CS;go_wp2_with fail;refine(hb.out W).mono ?_;rintro _ w1 ⟨rfl,rfl⟩;clear hb;generalize m.take (a+n)=S at*;go_wp2_with fail;refine(ae.out _).mono ?_;rintro _ w1 ⟨v,rfl,hT,b1⟩;have B1:=B12.G b1 B12.lt;have A1:=B10.G b1 B10.lt;have HB1:=um HB HB.size b1;obtain⟨A,c,hv,-,-⟩:=hT.form;subst hv;clear b1 ae B12 B10 HB;have nv0:=AB.mk' hT h4 h5;clear hT;go_wp2_with(refine ur (.store 26 (.tmp 161) (.tmp 160)) J (af J (w.heap.size+1) 22 (.slice A l.length c) B1 I vO ?_));intro w2 B2 g2 _;have A2:=A1.grown g2 ap;have ty:=uq HB1 g2 HB1.size I;clear g2 B1 A1 HB1;go_wp2_with fail;refine(ul.out _).mono ?_;rintro _ w3 ⟨v',rfl,hT',b3⟩;have B3:=B2.G b3 B2.lt;have A3:=A2.G b3 A2.lt;have HB3:=um ty ty.size b3;obtain⟨A',c',hv',-,-⟩:=hT'.form;subst hv';clear b3 ul B2 A2 ty hT' nv0;go_wp2_with(refine ur (.store 26 (.tmp 174) (.tmp 173)) J (af J (w.heap.size+1) 23 _ B3 bY vO ?_));intro w4 B4 g4 _;have A2:=A3.grown g4 ap;have ty:=uq HB3 g4 HB3.size I;clear g4 B3 A3 HB3 B4;go_wp2_with fail;go_loopw[15,29] (fun ev iv wr=>iv= .int .i64 0/\wr=w4) (fun _ _ _=>0)
  case atStart=>exact⟨J,J⟩
  obtain⟨rfl,rfl⟩:=hrel;have hx:(5:Int)≠0:=az;go_wp2_with(refine ur (.store 119 (.tmp 10) (.tmp 215)) J (ab J w.heap.size 0 wm A2 bj cD wJ ?_));exact pc
 obtain⟨r,hr⟩:∃r:RR,r={RR.zero with tg:=l,ml:=l',Hh:=zL (m.take (a+n)) q}:=gG;obtain rfl:aeI= .ok r:=by rw[<-hO.out,hr];unfold Mg;rw[X];simp only;rw[k2];simp only;rw[if_pos hq]
 have asD:(((((m.take (a+n)).length:Nat):Int)-q) !=20)=false:=by rw[<-hq];simp;omega
 have hql:(q:Int)<=((m.take (a+n)).length:Nat):=I;have hsb:((m.take (a+n)).length:Int)<=4000000:=I;clear hO U X h3 k1 k2 k3 hS4 hSl;obtain⟨k1,k2,k3,k4,k5,hs0⟩:=Hz (m:=m) (a:=a) n n J I;obtain⟨afz,HW,C10,C12,CB,CS⟩:=zZ w;replace CS:w.heap.size+2<=afz.heap.size:=I;rw[<-HW.out]at C10 C12 CB CS;clear HW;go_enter func182,ntmps182;go_wp2_with(refine ur (.store 119 (.tmp 13) (.tmp 56)) J (ab J (w.heap.size+1) 0 wm C12 bj cD wJ ?_));intro W B12 g1 _;replace B12:F W (w.heap.size+1) 119 wm:=B12;have B10:=C10.grown g1 ap;have HB:=uq CB g1 I I;clear C10 C12 CB g1 CS;go_wp2_with fail;refine(hb.out W).mono ?_;rintro _ w1 ⟨rfl,rfl⟩;clear hb;generalize m.take (a+n)=S at*;go_wp2_with fail;refine(ae.out _).mono ?_;rintro _ w1 ⟨v,rfl,hT,b1⟩;have B1:=B12.G b1 B12.lt;have A1:=B10.G b1 B10.lt;have HB1:=um HB HB.size b1;obtain⟨A,c,hv,-,-⟩:=hT.form;subst hv;clear b1 ae B12 B10 HB;have nv0:=AB.mk' hT h4 h5;clear hT;go_wp2_with(refine ur (.store 26 (.tmp 161) (.tmp 160)) J (af J (w.heap.size+1) 22 (.slice A l.length c) B1 I vO ?_));intro w2 B2 g2 _;have A2:=A1.grown g2 ap;have ty:=uq HB1 g2 HB1.size I;replace nv0:=nv0.uH (uK.vj g2 B1 az);clear g2 B1 A1 HB1;go_wp2_with fail;refine(ul.out _).mono ?_;rintro _ w3 ⟨v',rfl,hT',b3⟩;have B3:=B2.G b3 B2.lt;have A3:=A2.G b3 A2.lt;have HB3:=um ty ty.size b3;replace nv0:=nv0.uH (uK.G b3);have nv1:=AB.mk' hT' kg ks;obtain⟨A',c',hv',-,-⟩:=hT'.form;subst hv';clear b3 ul B2 A2 ty hT';go_wp2_with(refine ur (.store 26 (.tmp 174) (.tmp 173)) J (af J (w.heap.size+1) 23 (.slice A' l'.length c') B3 bY vO ?_));intro w4 B4 g4 _;have A4:=A3.grown g4 ap;have HB4:=uq HB3 g4 HB3.size I;replace nv0:=nv0.uH (uK.vj g4 B3 az);replace nv1:=nv1.uH (uK.vj g4 B3 az);clear g4 B3 A3 HB3;obtain⟨LL,hLL⟩:∃LL,LL=(wm.set 22 (.slice A l.length c)).set 23 (.slice A' l'.length c'):=gG;rw[<-hLL]at B4;have ajy:LL.length=33:=iF;have HLL:=Y hLL;have HQ:=Y hq;have HR:=Y hr;clear hLL hq hr;go_wp2_with fail;go_loopw[15,29] (fun ev iv wr=>∃k:Nat,k<=5/\iv= .int .i64 k/\ev= .int .i64 ((q+4*k:Nat):Int)/\F wr (w.heap.size+1) 119 (QI LL S q k)/\F wr w.heap.size 119 wm/\al w wr/\uK w4 wr) (fun _ iv _=>5-(intOf iv).toNat)
 case atStart=>exact⟨0,I,J,J,by rw[YA];exact B4,A4,HB4,uK.refl _⟩
 clear B4 A4 HB4;obtain⟨k,z,rfl,rfl,B4,A4,HB4,S4⟩:=hrel;by_cases aB:k<5
 case pos=>
  have h1:(k:Int)<5:=I;have hqb:q+4*k+4<=S.length:=by have:=HQ.out;omega
  have NS:=Y (YB LL S q k ajy aB);have nl:=TZ LL S q k ajy z;have hce:(S.take (q+4*k+4)).drop (q+4*k)=(S.drop (q+4*k)).take 4:=by rw[List.drop_take,Nat.add_sub_cancel_left]
  have NN:=Y (fun w=>Bj ((S.take (q+4*k+4)).drop (q+4*k)) (by rw[hce];simp;omega) w);rw[<-hce]at NS;clear hce;obtain⟨e,he⟩:∃e,e=q+4*k:=gG;rw[<-he]at hqb NS NN⊢;have HE:=Y he;clear he;have he4:(e:Int)+4<=(S.length:Nat):=I;have te4:((e:Int)+4).toNat=e+4:=I;obtain⟨x,hx⟩:=ao (vw ((S.take (e+4)).drop e));rw[hx.out]at NN NS;go_wp2_with fail;refine(NN.out _).mono ?_;rintro _ w5 ⟨rfl,rfl⟩;go_wp2_with(refine ur (.store 3 (.tmp 202) (.tmp 200)) J (af J (w.heap.size+1) (27+k) (.int .i64 (x:Int)) B4 I uZ ?_));intro w6 B6 g6 _;rw[NS.out]at B6;have A6:=A4.grown g6 ap;have HB6:=uq HB4 g6 HB4.size I;have S6:=S4.trans (uK.vj g6 B4 az);clear B4 A4 HB4 S4 g6 NS NN nl;go_wp2_with fail;go_roundw
  case rel=>exact⟨k+1,I,gp,by rw[show((q+4*(k+1):Nat):Int)=(e:Int)+4 from by have:=HE.out;omega],B6,A6,HB6,S6⟩
  case measure=>simp[intOf];omega
 obtain rfl:k=5:=I;have h1:¬((5:Nat):Int)<5:=I;have hE:q+4*5=S.length:=by have:=HQ.out;omega
 rw[hE];obtain⟨L,hL⟩:∃L,L=QI LL S q 5:=gG;rw[<-hL]at B4;have ll:L.length=33:=by rw[hL];exact TZ LL S q 5 ajy I
 replace hL:L=vX uz (.slice A l.length c) (.slice A' l'.length c') r:=by rw[hL,HLL.out,HR.out];rfl
 have l1:Hid (∀v∈L,v.oneCell'=true):=Y bZ;have OW:Hid (∀w',uK wr w'->xv w' L r):=Y (fun w' K=>⟨uz,_,_,hL,by rw[HR.out];exact⟨J,J⟩,by rw[HR.out];exact AB.nil _,by rw[HR.out];exact(nv0.uH S4).uH K,by rw[HR.out];exact(nv1.uH S4).uH K,by rw[HR.out];simp[RR.zero]⟩);have B2:=B4;have A2:=A4;have ty:=HB4;clear hL hE nv0 nv1 HLL ajy HQ HR S4 B4 A4 HB4 asD hql hsb aB;go_wp2_with(first
  |(refine ur (.load 119 (.tmp 13)) rfl ?_;go_must(refine uu rfl _ _ rfl (w.heap.size+1) 0 rfl B2 33 I _ underlying119 rfl uU L (wP I) ?_))
  |(refine ur (.store 119 (.tmp 10) (.tmp 217)) rfl (ab rfl w.heap.size 0 L A2 bj cf l1.out ?_)))
 exact oX
theorem acS(m:List UInt8)(a n:Nat)(O N:Int)(w:World)(hm:a+n<=m.length)(hl:m.length<=4000000):
  Calls prog 182 #[.string (bs m),.int .i64 a,.int .i64 n,.int .i64 O,.int .i64 N] w (GN (yL m a n O N) w):=by
 have hd:((m.take (a+n)).drop a).length=n:=aA;rcases JV O N with h|h|h|h|h|h|h
 ·
  by_cases hn:n=4
  ·have:=WT 1 4 (.inl ⟨J,J⟩) m a n O N w hm hl h cF;exact rX
  ·have:=MY 1 (.inl J) m a n O N w hm hl h cG;exact tR
 ·
  have U:¬uQ O N=1:=I;by_cases hn:n=16
  ·have:=WT 28 6 (.inr ⟨J,J⟩) m a n O N w hm hl h cF;exact qW
  ·have:=MY 28 (.inr J) m a n O N w hm hl h cG;exact tS
 ·have:=TX 5 (.inl J) m a n O N w hm hl h _ J;exact qP
 ·have:=TX 12 (.inr J) m a n O N w hm hl h _ J;exact qO
 ·
  by_cases hn:n<6
  ·have:=VC m a n O N w hm hl h hn;exact tT
  ·have:=acQ m a n O N w hm hl h I _ J;exact pP
 ·have:=acR m a n O N w hm hl h;exact rM
 ·have:=acN m a n O N w hm hl h;exact rq
end Go.Proofs.YthnbcmlnpdabhaaGreat
