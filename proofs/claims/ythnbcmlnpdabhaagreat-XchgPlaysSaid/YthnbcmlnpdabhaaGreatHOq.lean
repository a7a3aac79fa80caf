/-
  Layer 25,the reference:Frame.
-/
import Derived.Test.YthnbcmlnpdabhaaGreatHQq
import Derived.Test.YthnbcmlnpdabhaaGreatKDq
namespace Go.Proofs.YthnbcmlnpdabhaaGreat
open _root_.Go.Proofs.Tryz
set_option maxHeartbeats 8000000
open Go.RowKit
set_option maxRecDepth 100000
set_option linter.unusedVariables false
set_option linter.unusedSimpArgs false
theorem abf{s:List UInt8}{m:vU}(h:xN s= .ok m):∀x∈m.qs,vB x.name<=1000:=by
 intro x hx;obtain⟨hc,_⟩:=acf h;obtain⟨hn,_⟩:=aam (Mr hc x hx);have:=(xj hn).2;omega
theorem Nf(cs:List Value)(y:Qy)(A:Option Addr)(c:Nat)(s:List UInt8)(w:World)(h:Ho w cs y A c)(hq:vB y.q.name<=1000):
  Calls prog 20 #[.agg cs.toArray,.string (bs s)] w (Td (xh y (xN s)) w):=by
 have hcl:cs.length=23:=jj;have D:=Y (fun w=>NB s w);have hQ:=Y (fun w' (b:al w w')=>h.G b);have C1:F ((w.alloc (.cells cs.toArray 30)).alloc (.cells uX.toArray 50)) w.heap.size 30 cs:=(F.new w 30 cs).alloc _;have C4:F ((w.alloc (.cells cs.toArray 30)).alloc (.cells uX.toArray 50)) (w.heap.size+1) 50 uX:=lj;have CB:Below w.heap.size w ((w.alloc (.cells cs.toArray 30)).alloc (.cells uX.toArray 50)):=gJ;obtain⟨aeI,hO⟩:=ao (xN s);have HQ:=Y (fun m hm=>abf (s:=s) (m:=m) hm);rw[hO.out]at D HQ⊢;clear h hO;go_enter func20,ntmps20;go_wp2_with fail;refine(D.out _).mono ?_;rintro _ w3 ⟨ds,m,x,rfl,hM3,b3,hx⟩;have B1:=C1.G b3 C1.lt;have B4:=C4.G b3 C4.lt;have HB3:=um CB CB.size b3;have hdl:=hM3.len;have hd1:=Y hM3.one;clear b3 C1 C4 CB D;go_wp2_with(refine ur (.store 50 (.tmp 6) (.tmp 11)) J (ab J w3.heap.size 0 ds (F.wE _ _ uX _ J) dJ dK hd1.out ?_));intro w4 B7 g4 _;replace B7:=Ez B7 dL;have k4:al w3 w4:=j4;have HB4:=um HB3 HB3.size k4;replace B1:=B1.G k4 B1.lt;replace B4:=B4.G k4 B4.lt;have hM4:=hM3.G k4;have hgr:w.heap.size<=w.heap.size+1:=I;have hrl:=zF;clear g4 k4 hM3 HB3;generalize w3.heap.size=gd at*;generalize w.heap.size+1=gr at*;rcases hx with⟨rfl,hO⟩|⟨hx,hO,rfl⟩
 case inr=>have hx':(x==0)=false:=iR;have HF:Hid (xh y aeI=(vU.zero,false)):=Y (by rw[hO];rfl);clear hx hO hM4 B1 B7 hQ;exact pk
 have RC:Hid (Calls prog 79 #[.agg cs.toArray,.agg ds.toArray] w4 (uI (.bool (zv y m)) w4)):=Y (by
  obtain⟨_,_,_,_,_,_,_,_,U⟩:=hM4.is;exact Qf cs ds y m A c _ _ _ _ _ _ _ _ w4 (hQ.out _ HB4) U hq (HQ.out m hO))
 go_wp2_with(first
  |(refine ur (.load 30 (.tmp 2)) rfl ?_;go_must(refine vE 30 (.tmp 2) rfl bp w.heap.size 0 rfl B1 23 I _ underlying30 rfl Dz cs (wP I) ?_))
  |(refine ur (.load 50 (.tmp 6)) rfl ?_;go_must(refine vE 50 (.tmp 6) rfl bp gd 0 rfl B7 14 I _ underlying50 rfl uW ds (wP I) ?_)))
 refine RC.out.mono ?_;rintro _ w5 ⟨rfl,b5⟩;have HB5:=um HB4 HB4.size b5;have B75:=B7.G b5 B7.lt;have B45:=B4.G b5 B4.lt;have hM5:=hM4.G b5;clear b5 RC B1 HB4 B7 B4 hM4 hQ;cases hr:zv y m with
 |false=>have HF:Hid (xh y aeI=(vU.zero,false)):=Y dM;have HB4:=HB5;have B4:=B45;clear hr hO HB5 B45 B75 hM5;exact pk
 |true=>
  have HF:Hid (xh y aeI=(m,true)):=Y dM;clear hr hO;go_wp2_with(first
   |(refine ur (.load 50 (.tmp 6)) rfl ?_;go_must(refine uu rfl _ _ rfl gd 0 rfl B75 14 I _ underlying50 rfl uW ds (wP I) ?_))
   |(refine ur (.store 50 (.tmp 4) (.tmp 20)) rfl (ab rfl gr 0 ds B45 I dK hd1.out ?_)))
  exact qx
theorem Uc(cs:List Value)(y:Qy)(A:Option Addr)(c:Nat)(e:Ev)(w:World)(h:Ho w cs y A c)(h2:e.fr.ip.length=16)(hq:vB y.q.name<=1000):
  Calls prog 35 #[.agg cs.toArray,.agg (yj e).toArray] w (Td (Dm y e) w):=by
 have hcl:cs.length=23:=jj;have hel:=Dk h2;have E0:(yj e)[0]?=some (.int .i64 e.kind):=rfl;have E19:(yj e)[19]?=some (.int .i64 e.fp):=CZ h2 0;have E20:(yj e)[20]?=some (.int .i64 e.port):=CZ h2 1;have E21:(yj e)[21]?=some (.string (bs e.data)):=CZ h2 2;have Q18:cs[18]?=some (.int .i64 y.port):=nA;have SE:=Y (aav h2);have SQ:Hid ((cs.drop 0).take 18=y.sv.cells):=Y dN;have EA:=FL e.fr y.sv h2 h.ip;have FC:=Y (fun w' (b:al w w')=>Nf cs y A c e.data w' (h.G b) hq);have B2:F (((w.alloc (.cells cs.toArray 30)).alloc (.cells (yj e).toArray 42)).alloc (.cells uX.toArray 50)) w.heap.size 30 cs:=((F.new w 30 cs).alloc _).alloc _;have B3:F (((w.alloc (.cells cs.toArray 30)).alloc (.cells (yj e).toArray 42)).alloc (.cells uX.toArray 50)) (w.heap.size+1) 42 (yj e):=oJ;have B4:F (((w.alloc (.cells cs.toArray 30)).alloc (.cells (yj e).toArray 42)).alloc (.cells uX.toArray 50)) (w.heap.size+1+1) 50 uX:=lj;have HB:Below w.heap.size w (((w.alloc (.cells cs.toArray 30)).alloc (.cells (yj e).toArray 42)).alloc (.cells uX.toArray 50)):=iV;obtain⟨afz,hX⟩:=ao (((w.alloc (.cells cs.toArray 30)).alloc (.cells (yj e).toArray 42)).alloc (.cells uX.toArray 50));have c0:=xO E0;have c19:=xO E19;have c20:=xO E20;have c21:=xO E21;have d18:=xO Q18;obtain⟨P,hP⟩:=ao (Dm y e);rw[hP.out];have PP:Hid (P=if e.kind=2/\e.fr=y.sv/\e.fp=53/\e.port=y.port then xh y (xN e.data)else(vU.zero,false)):=Y dO;clear h h2 hq E0 E19 E20 E21 Q18 hP hX;generalize xh y (xN e.data)=agH at*;generalize e.data=dt at*;by_cases z:e.kind=2
 case neg=>have hk':(e.kind==2)=false:=bh;have HF:Hid (P=(vU.zero,false)):=Y dP;clear z PP FC EA;generalize e.kind=kd at*;generalize yj e=es at*;go_enter func35,ntmps35;go_wp2_with(refine ur (.store 50 (.tmp 4) (.tmp 34)) J (ab J (w.heap.size+1+1) 0 uX B4 dL uW xy ?_));exact pa
 rw[z]at c0;generalize yj e=es at*;by_cases hf:e.fr=y.sv
 case neg=>
  have HF:Hid (P=(vU.zero,false)):=Y dQ;rw[decide_eq_false hf]at EA;clear z hf PP FC;generalize e.fr.cells=fc,y.sv.cells=sc at*;go_enter func35,ntmps35;go_wp2_with(first
   |(refine ur (.load 24 (.tmp 10)) rfl ?_;go_must(refine vE 24 (.tmp 10) rfl bp (w.heap.size+1) 1 rfl B3 18 I _ underlying24 rfl xL _ SE.out ?_))
   |(refine ur (.load 24 (.tmp 12)) rfl ?_;go_must(refine vE 24 (.tmp 12) rfl bp w.heap.size 0 rfl B2 18 I _ underlying24 rfl xL _ SQ.out ?_))
   |(refine ur (.store 50 (.tmp 4) (.tmp 34)) rfl (ab rfl (w.heap.size+1+1) 0 uX B4 dL uW xy ?_)))
  exact pa
 rw[decide_eq_true hf]at EA;by_cases hp:e.fp=53
 case neg=>
  have hp':(e.fp==53)=false:=by simpa using hp
  have HF:Hid (P=(vU.zero,false)):=Y dR;clear z hf hp PP FC;generalize e.fp=fp,e.fr.cells=fc,y.sv.cells=sc at*;go_enter func35,ntmps35;go_wp2_with(first
   |(refine ur (.load 24 (.tmp 10)) rfl ?_;go_must(refine vE 24 (.tmp 10) rfl bp (w.heap.size+1) 1 rfl B3 18 I _ underlying24 rfl xL _ SE.out ?_))
   |(refine ur (.load 24 (.tmp 12)) rfl ?_;go_must(refine vE 24 (.tmp 12) rfl bp w.heap.size 0 rfl B2 18 I _ underlying24 rfl xL _ SQ.out ?_))
   |(refine ur (.store 50 (.tmp 4) (.tmp 34)) rfl (ab rfl (w.heap.size+1+1) 0 uX B4 dL uW xy ?_)))
  exact pa
 rw[hp]at c19;by_cases ho:e.port=y.port
 case neg=>
  have ho':(e.port==y.port)=false:=by simpa using ho
  have HF:Hid (P=(vU.zero,false)):=Y dS;clear z hf hp ho PP FC;generalize e.port=ep,y.port=yp at*;generalize e.fr.cells=fc,y.sv.cells=sc at*;go_enter func35,ntmps35;go_wp2_with(first
   |(refine ur (.load 24 (.tmp 10)) rfl ?_;go_must(refine vE 24 (.tmp 10) rfl bp (w.heap.size+1) 1 rfl B3 18 I _ underlying24 rfl xL _ SE.out ?_))
   |(refine ur (.load 24 (.tmp 12)) rfl ?_;go_must(refine vE 24 (.tmp 12) rfl bp w.heap.size 0 rfl B2 18 I _ underlying24 rfl xL _ SQ.out ?_))
   |(refine ur (.store 50 (.tmp 4) (.tmp 34)) rfl (ab rfl (w.heap.size+1+1) 0 uX B4 dL uW xy ?_)))
  exact pa
 rw[ho]at c20;have HF:Hid (P=agH):=Y dT;clear z hf hp ho PP;generalize y.port=yp,e.fr.cells=fc,y.sv.cells=sc at*;go_enter func35,ntmps35;go_wp2_with(first
  |(refine ur (.load 24 (.tmp 10)) rfl ?_;go_must(refine vE 24 (.tmp 10) rfl bp (w.heap.size+1) 1 rfl B3 18 I _ underlying24 rfl xL _ SE.out ?_))
  |(refine ur (.load 24 (.tmp 12)) rfl ?_;go_must(refine vE 24 (.tmp 12) rfl bp w.heap.size 0 rfl B2 18 I _ underlying24 rfl xL _ SQ.out ?_))
  |(refine ur (.load 30 (.tmp 2)) rfl ?_;go_must(refine uu rfl _ _ rfl w.heap.size 0 rfl B2 23 I _ underlying30 rfl Dz cs (wP I) ?_)))
 refine(FC.out _ HB).mono ?_;rintro _ w5 ⟨ds,rfl,hM5,b5⟩;have HB5:=um HB HB.size b5;have B45:=B4.G b5 B4.lt;have hdl:=hM5.len;have hd1:=Y hM5.one;clear b5 FC HB B2 B3 B4 c0 c19 c20 c21 d18 EA SE SQ;go_wp2_with(refine ur (.store 50 (.tmp 4) (.tmp 32)) J (ab J (w.heap.size+1+1) 0 ds B45 dL dK hd1.out ?_));exact qt
end Go.Proofs.YthnbcmlnpdabhaaGreat
