/-
  Layer 25,the reference:Frame.
-/
import Derived.Test.YthnbcmlnpdabhaaGreatHQz
import Derived.Test.YthnbcmlnpdabhaaGreatKDz
namespace Go.Proofs.YthnbcmlnpdabhaaGreat
open _root_.Go.Proofs.Tryz
set_option maxHeartbeats 8000000
open Go.RowKit
set_option maxRecDepth 100000
set_option linter.unusedVariables false
set_option linter.unusedSimpArgs false
theorem aat{s:List UInt8}{m:vo}(h:xo s= .ok m):∀x∈m.qs,uQ x.name<=1000:=by
 intro x hx;obtain⟨hc,_⟩:=abp h;obtain⟨hn,_⟩:=Zt (Ls hc x hx);have:=(wK hn).2;omega
theorem Mp(cs:List Value)(y:Qy)(A:Option Addr)(c:Nat)(s:List UInt8)(w:World)(h:Ib w cs y A c)(hq:uQ y.q.name<=1000):
  Calls prog 20 #[.agg cs.toArray,.string (bs s)] w (Rw (wH y (xo s)) w):=by
 have hcl:cs.length=23:=ja;have D:=Y (fun w=>MO s w);have hQ:=Y (fun w' (b:al w w')=>h.G b);have C1:Z ((w.alloc (.cells cs.toArray 30)).alloc (.cells uw.toArray 50)) w.heap.size 30 cs:=(Z.new w 30 cs).alloc _;have C4:Z ((w.alloc (.cells cs.toArray 30)).alloc (.cells uw.toArray 50)) (w.heap.size+1) 50 uw:=kK;have CB:Below w.heap.size w ((w.alloc (.cells cs.toArray 30)).alloc (.cells uw.toArray 50)):=gA;obtain⟨aek,hO⟩:=ao (xo s);have HQ:=Y (fun m hm=>aat (s:=s) (m:=m) hm);rw[hO.out]at D HQ⊢;clear h hO;go_enter func20,ntmps20;go_wp2_with fail;refine(D.out _).mono ?_;rintro _ w3 ⟨ds,m,x,rfl,hM3,b3,hx⟩;have B1:=C1.G b3 C1.lt;have B4:=C4.G b3 C4.lt;have HB3:=tL CB CB.size b3;have hdl:=hM3.len;have hd1:=Y hM3.one;clear b3 C1 C4 CB D;go_wp2_with(refine tO (.store 50 (.tmp 6) (.tmp 11)) J (ab J w3.heap.size 0 ds (Z.vP _ _ uw _ J) dI dJ hd1.out ?_));intro w4 B7 g4 _;replace B7:=DW B7 dK;have k4:al w3 w4:=jK;have HB4:=tL HB3 HB3.size k4;replace B1:=B1.G k4 B1.lt;replace B4:=B4.G k4 B4.lt;have hM4:=hM3.G k4;have hgr:w.heap.size<=w.heap.size+1:=I;have hrl:=zP;clear g4 k4 hM3 HB3;generalize w3.heap.size=gd at*;generalize w.heap.size+1=gr at*;rcases hx with⟨rfl,hO⟩|⟨hx,hO,rfl⟩
 case inr=>have hx':(x==0)=false:=iJ;have HF:Hid (wH y aek=(vo.zero,false)):=Y (by rw[hO];rfl);clear hx hO hM4 B1 B7 hQ;exact oL
 have RC:Hid (Calls prog 79 #[.agg cs.toArray,.agg ds.toArray] w4 (uf (.bool (yV y m)) w4)):=Y (by
  obtain⟨_,_,_,_,_,_,_,_,U⟩:=hM4.is;exact Px cs ds y m A c _ _ _ _ _ _ _ _ w4 (hQ.out _ HB4) U hq (HQ.out m hO))
 go_wp2_with(first
  |(refine tO (.load 30 (.tmp 2)) rfl ?_;go_must(refine uX 30 (.tmp 2) rfl bm w.heap.size 0 rfl B1 23 I _ underlying30 rfl DX cs (wg I) ?_))
  |(refine tO (.load 50 (.tmp 6)) rfl ?_;go_must(refine uX 50 (.tmp 6) rfl bm gd 0 rfl B7 14 I _ underlying50 rfl ux ds (wg I) ?_)))
 refine RC.out.mono ?_;rintro _ w5 ⟨rfl,b5⟩;have HB5:=tL HB4 HB4.size b5;have B75:=B7.G b5 B7.lt;have B45:=B4.G b5 B4.lt;have hM5:=hM4.G b5;clear b5 RC B1 HB4 B7 B4 hM4 hQ;cases hr:yV y m with
 |false=>have HF:Hid (wH y aek=(vo.zero,false)):=Y dL;have HB4:=HB5;have B4:=B45;clear hr hO HB5 B45 B75 hM5;exact oL
 |true=>
  have HF:Hid (wH y aek=(m,true)):=Y dL;clear hr hO;go_wp2_with(first
   |(refine tO (.load 50 (.tmp 6)) rfl ?_;go_must(refine tP rfl _ _ rfl gd 0 rfl B75 14 I _ underlying50 rfl ux ds (wg I) ?_))
   |(refine tO (.store 50 (.tmp 4) (.tmp 20)) rfl (ab rfl gr 0 ds B45 I dJ hd1.out ?_)))
  exact pS
theorem JF(cs:List Value)(y:Qy)(A:Option Addr)(c:Nat)(e:Ev)(w:World)(h:Ib w cs y A c)(ty:e.fr.ip.length=16)(hq:uQ y.q.name<=1000):
  Calls prog 35 #[.agg cs.toArray,.agg (xA e).toArray] w (Rw (A8 y e) w):=by
 have hcl:cs.length=23:=ja;have hel:=Cv ty;have E0:(xA e)[0]?=some (.int .i64 e.kind):=rfl;have E19:(xA e)[19]?=some (.int .i64 e.fp):=z7 ty 0;have E20:(xA e)[20]?=some (.int .i64 e.port):=z7 ty 1;have E21:(xA e)[21]?=some (.string (bs e.data)):=z7 ty 2;have Q18:cs[18]?=some (.int .i64 y.port):=m5;have SE:=Y (ZE ty);have SQ:Hid ((cs.drop 0).take 18=y.sv.cells):=Y dM;have EA:=Hf e.fr y.sv ty h.ip;have FC:=Y (fun w' (b:al w w')=>Mp cs y A c e.data w' (h.G b) hq);have B2:Z (((w.alloc (.cells cs.toArray 30)).alloc (.cells (xA e).toArray 42)).alloc (.cells uw.toArray 50)) w.heap.size 30 cs:=((Z.new w 30 cs).alloc _).alloc _;have B3:Z (((w.alloc (.cells cs.toArray 30)).alloc (.cells (xA e).toArray 42)).alloc (.cells uw.toArray 50)) (w.heap.size+1) 42 (xA e):=n6;have B4:Z (((w.alloc (.cells cs.toArray 30)).alloc (.cells (xA e).toArray 42)).alloc (.cells uw.toArray 50)) (w.heap.size+1+1) 50 uw:=kK;have HB:Below w.heap.size w (((w.alloc (.cells cs.toArray 30)).alloc (.cells (xA e).toArray 42)).alloc (.cells uw.toArray 50)):=iN;obtain⟨aeR,hX⟩:=ao (((w.alloc (.cells cs.toArray 30)).alloc (.cells (xA e).toArray 42)).alloc (.cells uw.toArray 50));have c0:=xp E0;have c19:=xp E19;have c20:=xp E20;have c21:=xp E21;have d18:=xp Q18;obtain⟨P,hP⟩:=ao (A8 y e);rw[hP.out];have PP:Hid (P=if e.kind=2/\e.fr=y.sv/\e.fp=53/\e.port=y.port then wH y (xo e.data)else(vo.zero,false)):=Y dN;clear h ty hq E0 E19 E20 E21 Q18 hP hX;generalize wH y (xo e.data)=afW at*;generalize e.data=dt at*;by_cases O:e.kind=2
 case neg=>have hk':(e.kind==2)=false:=bf;have HF:Hid (P=(vo.zero,false)):=Y dO;clear O PP FC EA;generalize e.kind=kd at*;generalize xA e=es at*;go_enter func35,ntmps35;go_wp2_with(refine tO (.store 50 (.tmp 4) (.tmp 34)) J (ab J (w.heap.size+1+1) 0 uw B4 dK ux wT ?_));exact oC
 rw[O]at c0;generalize xA e=es at*;by_cases hf:e.fr=y.sv
 case neg=>
  have HF:Hid (P=(vo.zero,false)):=Y dP;rw[decide_eq_false hf]at EA;clear O hf PP FC;generalize e.fr.cells=fc,y.sv.cells=sc at*;go_enter func35,ntmps35;go_wp2_with(first
   |(refine tO (.load 24 (.tmp 10)) rfl ?_;go_must(refine uX 24 (.tmp 10) rfl bm (w.heap.size+1) 1 rfl B3 18 I _ underlying24 rfl xJ _ SE.out ?_))
   |(refine tO (.load 24 (.tmp 12)) rfl ?_;go_must(refine uX 24 (.tmp 12) rfl bm w.heap.size 0 rfl B2 18 I _ underlying24 rfl xJ _ SQ.out ?_))
   |(refine tO (.store 50 (.tmp 4) (.tmp 34)) rfl (ab rfl (w.heap.size+1+1) 0 uw B4 dK ux wT ?_)))
  exact oC
 rw[decide_eq_true hf]at EA;by_cases hp:e.fp=53
 case neg=>
  have hp':(e.fp==53)=false:=by simpa using hp
  have HF:Hid (P=(vo.zero,false)):=Y dQ;clear O hf hp PP FC;generalize e.fp=fp,e.fr.cells=fc,y.sv.cells=sc at*;go_enter func35,ntmps35;go_wp2_with(first
   |(refine tO (.load 24 (.tmp 10)) rfl ?_;go_must(refine uX 24 (.tmp 10) rfl bm (w.heap.size+1) 1 rfl B3 18 I _ underlying24 rfl xJ _ SE.out ?_))
   |(refine tO (.load 24 (.tmp 12)) rfl ?_;go_must(refine uX 24 (.tmp 12) rfl bm w.heap.size 0 rfl B2 18 I _ underlying24 rfl xJ _ SQ.out ?_))
   |(refine tO (.store 50 (.tmp 4) (.tmp 34)) rfl (ab rfl (w.heap.size+1+1) 0 uw B4 dK ux wT ?_)))
  exact oC
 rw[hp]at c19;by_cases ho:e.port=y.port
 case neg=>
  have ho':(e.port==y.port)=false:=by simpa using ho
  have HF:Hid (P=(vo.zero,false)):=Y dR;clear O hf hp ho PP FC;generalize e.port=ep,y.port=yp at*;generalize e.fr.cells=fc,y.sv.cells=sc at*;go_enter func35,ntmps35;go_wp2_with(first
   |(refine tO (.load 24 (.tmp 10)) rfl ?_;go_must(refine uX 24 (.tmp 10) rfl bm (w.heap.size+1) 1 rfl B3 18 I _ underlying24 rfl xJ _ SE.out ?_))
   |(refine tO (.load 24 (.tmp 12)) rfl ?_;go_must(refine uX 24 (.tmp 12) rfl bm w.heap.size 0 rfl B2 18 I _ underlying24 rfl xJ _ SQ.out ?_))
   |(refine tO (.store 50 (.tmp 4) (.tmp 34)) rfl (ab rfl (w.heap.size+1+1) 0 uw B4 dK ux wT ?_)))
  exact oC
 rw[ho]at c20;have HF:Hid (P=afW):=Y dS;clear O hf hp ho PP;generalize y.port=yp,e.fr.cells=fc,y.sv.cells=sc at*;go_enter func35,ntmps35;go_wp2_with(first
  |(refine tO (.load 24 (.tmp 10)) rfl ?_;go_must(refine uX 24 (.tmp 10) rfl bm (w.heap.size+1) 1 rfl B3 18 I _ underlying24 rfl xJ _ SE.out ?_))
  |(refine tO (.load 24 (.tmp 12)) rfl ?_;go_must(refine uX 24 (.tmp 12) rfl bm w.heap.size 0 rfl B2 18 I _ underlying24 rfl xJ _ SQ.out ?_))
  |(refine tO (.load 30 (.tmp 2)) rfl ?_;go_must(refine tP rfl _ _ rfl w.heap.size 0 rfl B2 23 I _ underlying30 rfl DX cs (wg I) ?_)))
 refine(FC.out _ HB).mono ?_;rintro _ w5 ⟨ds,rfl,hM5,b5⟩;have HB5:=tL HB HB.size b5;have B45:=B4.G b5 B4.lt;have hdl:=hM5.len;have hd1:=Y hM5.one;clear b5 FC HB B2 B3 B4 c0 c19 c20 c21 d18 EA SE SQ;go_wp2_with(refine tO (.store 50 (.tmp 4) (.tmp 32)) J (ab J (w.heap.size+1+1) 0 ds B45 dK dJ hd1.out ?_));exact pP
end Go.Proofs.YthnbcmlnpdabhaaGreat
