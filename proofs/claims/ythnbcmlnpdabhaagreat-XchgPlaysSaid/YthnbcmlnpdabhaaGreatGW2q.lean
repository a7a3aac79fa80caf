/-
  The reference's layer 13:Check.
-/
import Derived.Test.YthnbcmlnpdabhaaGreatRd10q
namespace Go.Proofs.YthnbcmlnpdabhaaGreat
open _root_.Go.Proofs.Tryz
set_option maxHeartbeats 8000000
open Go.RowKit
set_option maxRecDepth 100000
set_option linter.unusedVariables false
set_option linter.unusedSimpArgs false
variable {An At Am:Option Addr} {cn ct cm lo:Nat} {w w':World}
def Fs(r:RR):RR:=
 if uQ r.O r.N=1\/uQ r.O r.N=28 then{vC r with ad:=r.ad}
 else if uQ r.O r.N=5\/uQ r.O r.N=12 then{vC r with tg:=r.tg}
 else if uQ r.O r.N=33 then{vC r with pri:=r.pri,we:=r.we,po:=r.po,tg:=r.tg}
 else if uQ r.O r.N=6 then{vC r with tg:=r.tg,ml:=r.ml,Hh:=r.Hh}
 else{vC r with raw:=r.raw}
theorem aae(r:RR):decide (Fs r=r)=AU (yc r):=by
 have key:∀x:RR,decide (x=r)=AU (yc r)↔(x=r↔AU (yc r)=true):=fun x=>by rw[Bool.eq_iff_iff,decide_eq_true_eq]
 rw[key];clear key;rcases zQ r.O r.N with h|h|(h|h)|h|h|h;all_goals
  unfold Fs yc;rw[h];unfold AU vC RR.zero;obtain⟨a0,a1,a2,a3,a4,a5,a6,a7,a8,a9,a10,a11⟩:=r;simp only[RR.mk.injEq,Bool.and_eq_true,decide_eq_true_eq,true_and,and_true];refine⟨fun h=>?_,fun h=>?_⟩;all_goals first|grind|simp_all
def Dx(r:RR):Int:=if yC r≠0 then yC r else if decide (Fs r=r)then 0 else 5
theorem ye(r:RR):(vC r).wf:=⟨J,J⟩
theorem Ku(cs:List Value)(r:RR)(w:World)(h:xJ w cs r)(h0:uE r.name≠0):Calls prog 161 #[.agg cs.toArray] w (uI (.int .i64 (uE r.name)) w):=by
 obtain⟨An,cn,At,ct,Am,cm,hS,hr,hN,hT,hM,agn⟩:=h;have hl:cs.length=33:=iY;have L0:∀hi:0<cs.length,cs[0]'hi= .slice An r.name.length cn:=xO bI;have CN:=Y (fun w' (b:al w w')=>vD An cn r.name w' (hN.G b).1 bB);generalize uE r.name=e at*;have h0':(e !=0)=true:=kD;clear hS h0;have hB0:Below w.heap.size w (w.alloc (.cells cs.toArray 119)):=gF;go_enter func161,ntmps161;go_wp2_with fail;refine(CN.out _ hB0).mono ?_;rintro _ w1 ⟨rfl,rfl⟩;exact rL
theorem Jk(cs:List Value)(r:RR)(w:World)(h:xJ w cs r)(h0:uE r.name=0)(Z:¬(yo 65535 r.O=true/\yo 65535 r.N=true/\yo 4294967295 r.ak=true)):Calls prog 161 #[.agg cs.toArray] w (uI (.int .i64 4) w):=by
 obtain⟨An,cn,At,ct,Am,cm,hS,hr,hN,hT,hM,agn⟩:=h;have hl:cs.length=33:=iY;have L0:∀hi:0<cs.length,cs[0]'hi= .slice An r.name.length cn:=xO bI;have L1:∀hi:1<cs.length,cs[1]'hi= .int .i64 r.O:=xO bI;have L2:∀hi:2<cs.length,cs[2]'hi= .int .i64 r.N:=xO bI;have L3:∀hi:3<cs.length,cs[3]'hi= .int .i64 r.ak:=xO bI;have CN:=Y (fun w' (b:al w w')=>vD An cn r.name w' (hN.G b).1 bB);rw[h0]at CN;have O1:=Y (fun w=>vk r.O 65535 w);have O2:=Y (fun w=>vk r.N 65535 w);have O3:=Y (fun w=>vk r.ak 4294967295 w);generalize yo 65535 r.O=b1 at*;generalize yo 65535 r.N=b2 at*;generalize yo 4294967295 r.ak=b3 at*;have HB:=Y Z;clear hS h0 Z;have hB0:Below w.heap.size w (w.alloc (.cells cs.toArray 119)):=gF;go_enter func161,ntmps161;go_wp2_with fail;refine(CN.out _ hB0).mono ?_;rintro _ w1 ⟨rfl,rfl⟩;go_wp2_with fail;refine(O1.out _).mono ?_;rintro _ w1 ⟨rfl,rfl⟩;cases b1 with
 |false=>exact rL
 |true=>
 go_wp2_with fail;refine(O2.out _).mono ?_;rintro _ w1 ⟨rfl,rfl⟩;cases b2 with
 |false=>exact rL
 |true=>
 go_wp2_with fail;refine(O3.out _).mono ?_;rintro _ w1 ⟨rfl,rfl⟩;cases b3 with
 |false=>exact rL
 |true=>exact absurd ap HB.out
structure Good (cs:List Value) (r:RR) (w:World) (An:Option Addr) (cn:Nat) (At:Option Addr) (ct:Nat) (Am:Option Addr) (cm:Nat):Prop where
 hS:cs=vX (.slice An r.name.length cn) (.slice At r.tg.length ct) (.slice Am r.ml.length cm) r
 hr:r.wf
 hN:xE w An cn r.name
 hT:xE w At ct r.tg
 hM:xE w Am cm r.ml
 agn:r.raw.length<=140737488355328
 h0:uE r.name=0
 U:yo 65535 r.O=true
 X:yo 65535 r.N=true
 h3:yo 4294967295 r.ak=true
theorem ad2(cs:List Value)(r:RR)(w:World)(h:Good cs r w An cn At ct Am cm)(z:uQ r.O r.N=5\/uQ r.O r.N=12):Calls prog 161 #[.agg cs.toArray] w (uI (.int .i64 (Dx r)) w):=by
 have hw:Fs r={vC r with tg:=r.tg}:=by unfold Fs;rcases z with z|z<;>rw[z]<;>rfl
 have hE:yC r=uE r.tg:=by unfold yC;rcases z with z|z<;>rw[z]<;>rfl
 rcases z with z|z;all_goals
  have hl:cs.length=33:=iD;have L0:∀hi:0<cs.length,cs[0]'hi= .slice An r.name.length cn:=iL;have L1:∀hi:1<cs.length,cs[1]'hi= .int .i64 r.O:=iL;have L2:∀hi:2<cs.length,cs[2]'hi= .int .i64 r.N:=iL;have L3:∀hi:3<cs.length,cs[3]'hi= .int .i64 r.ak:=iL;have M1:cs[1]?=some (.int .i64 r.O):=cV;have M2:cs[2]?=some (.int .i64 r.N):=cV;have CN:=Y (fun w' (b:al w w')=>vD An cn r.name w' (h.hN.G b).1 cW);rw[h.h0]at CN;have O1:=Y (fun w=>vk r.O 65535 w);have O2:=Y (fun w=>vk r.N 65535 w);have O3:=Y (fun w=>vk r.ak 4294967295 w);rw[h.U]at O1;rw[h.X]at O2;rw[h.h3]at O3;have BR:=Y (fun w=>DQ An r.name.length cn (.slice At r.tg.length ct) (.slice Am r.ml.length cm) r h.hr w);rw[<-h.hS]at BR;have hb:=Y (fun w=>vF r.O r.N w);rw[z]at hb;have ZL:=vA (vn:=.slice An r.name.length cn) (vt:=uz) (vm:=uz) (ye r);have ZC:=Y (wR (vn:=.slice An r.name.length cn) (vt:=uz) (vm:=uz) (r:=vC r) J J J);have RW:xJ w cs r:=gR;have HE:Hid (Dx r=_):=Y cX;generalize Dx r=res at*;rw[hE,hw]at HE;have M22:cs[22]?=some (.slice At r.tg.length ct):=kE;have S5:=Cn (vn:=.slice An r.name.length cn) (vt:=uz) (vm:=uz) (ye r) (.slice At r.tg.length ct);have l5:=vA (vn:=.slice An r.name.length cn) (vt:=.slice At r.tg.length ct) (vm:=uz) (ye r);have R5:xJ w (vX (.slice An r.name.length cn) (.slice At r.tg.length ct) uz (vC r)) {vC r with tg:=r.tg}:=jm;have SM:=Y (fun w' (b:al w w')=>zJ _ cs {vC r with tg:=r.tg} r w' (R5.G b) (RW.G b));have CT:=Y (fun w' (b:al w w')=>vD At ct r.tg w' (h.hT.G b).1 cY);clear h R5 RW z hE hw;generalize decide ({vC r with tg:=r.tg}=r)=sb at*;generalize vX (.slice An r.name.length cn) (.slice At r.tg.length ct) uz (vC r)=L5 at*;generalize uE r.tg=e at*;generalize vX (.slice An r.name.length cn) uz uz (vC r)=L4 at*;generalize r.name.length=nn,r.tg.length=nt at*;generalize r.ml.length=nm,r.O=O at*;generalize r.N=N,r.ak=ak at*;have hB0:Below w.heap.size w (w.alloc (.cells cs.toArray 119)):=gF;have B0:=F.new w 119 cs;go_enter func161,ntmps161;go_wp2_with fail;refine(CN.out _ hB0).mono ?_;rintro _ w1 ⟨rfl,rfl⟩;go_wp2_with fail;refine(O1.out _).mono ?_;rintro _ w1 ⟨rfl,rfl⟩;go_wp2_with fail;refine(O2.out _).mono ?_;rintro _ w1 ⟨rfl,rfl⟩;go_wp2_with fail;refine(O3.out _).mono ?_;rintro _ w1 ⟨rfl,rfl⟩;clear O1 O2 O3 CN;go_wp2_with(refine ur (.load 119 (.tmp 1)) J ?_;go_must(refine uu J _ _ J w.heap.size 0 J B0 33 I _ underlying119 J uU cs (wP I) ?_));refine(BR.out _).mono ?_;rintro _ w2 ⟨rfl,b2⟩;have B1':=(B0.G b2 B0.lt).alloc (.cells wm.toArray 119);have ty:=um hB0 hB0.size b2;have aB:w.heap.size<w2.heap.size:=iJ;clear B0 hB0 b2 BR L0 L1 L2 L3;go_wp2_with(refine ur (.store 119 (.tmp 4) (.tmp 27)) J (ab J w2.heap.size 0 L4 (F.wE _ _ wm _ ap) bj cZ ZC.out ?_));intro w3 hb3 hg3 hs3;rw[List.drop_of_length_le bj,List.append_nil]at hb3;have B4:=hb3;have B1:F w3 w.heap.size 119 cs:=kB;have HB:al w w3:=ic;clear hb3 hg3 ty B1' hs3;have u1:=B1.M 1 M1;have u2:=B1.M 2 M2;go_wp2_with fail;refine(hb.out _).mono ?_;rintro _ w4 ⟨rfl,rfl⟩;clear hb u1 u2 M1 M2;have u22:=B1.M 22 M22;go_wp2_with(refine ur (.store 26 (.tmp 82) (.tmp 81)) J (af J w2.heap.size 22 (.slice At nt ct) B4 I vO ?_));clear u22;intro w4 hb4 hg4 hs4;replace B4:=hb4;replace B1:=B1.grown hg4 aA;replace HB:=uq HB hg4 HB.size I;clear hb4 hg4 hs4
  (try rw[S5]at B4)
  have u22:=B1.M 22 M22;go_wp2_with fail;refine(CT.out _ HB).mono ?_;rintro _ w5 ⟨rfl,rfl⟩;clear CT u22 M22 S5;by_cases he0:e=0
  ·
   subst he0;have hr0:=Y (HE.out.trans (if_neg ap));clear HE;go_wp2_with(first
    |(refine ur (.load 119 (.tmp 4)) rfl ?_;refine u6 (by kernel_rfl) 119 (.tmp 4) rfl w2.heap.size 0 rfl B4 33 I _ underlying119 rfl uU L5 (wP I) ?_)
    |(refine ur (.load 119 (.tmp 1)) rfl ?_;refine u6 (by kernel_rfl) 119 (.tmp 1) rfl w.heap.size 0 rfl B1 33 I _ underlying119 rfl uU cs (wP I) ?_))
   refine(SM.out _ HB).mono ?_;rintro _ w9 ⟨rfl,b9⟩;have HB9:=um HB HB.size b9;cases sb with
   |false=>have hr1:res=5:=il;subst hr1;clear hr0;exact pw
   |true=>have hr1:res=0:=il;subst hr1;clear hr0;exact pw
  ·have hr0:=HE.out.trans (if_pos he0);subst hr0;have he1:(res==0)=false:=iM;clear HE he0;exact pg
theorem ad3(cs:List Value)(r:RR)(w:World)(h:Good cs r w An cn At ct Am cm)(z:uQ r.O r.N=1):Calls prog 161 #[.agg cs.toArray] w (uI (.int .i64 (Dx r)) w):=by
 have hw:Fs r={vC r with ad:=r.ad}:=iX;have hE:yC r=(if r.ad.check≠0\/r.ad.fam≠4\/r.ad.hk≠0 then 10 else 0):=hU;have hl:cs.length=33:=iD;have L0:∀hi:0<cs.length,cs[0]'hi= .slice An r.name.length cn:=iL;have L1:∀hi:1<cs.length,cs[1]'hi= .int .i64 r.O:=iL;have L2:∀hi:2<cs.length,cs[2]'hi= .int .i64 r.N:=iL;have L3:∀hi:3<cs.length,cs[3]'hi= .int .i64 r.ak:=iL;have M1:cs[1]?=some (.int .i64 r.O):=cV;have M2:cs[2]?=some (.int .i64 r.N):=cV;have CN:=Y (fun w' (b:al w w')=>vD An cn r.name w' (h.hN.G b).1 cW);rw[h.h0]at CN;have O1:=Y (fun w=>vk r.O 65535 w);have O2:=Y (fun w=>vk r.N 65535 w);have O3:=Y (fun w=>vk r.ak 4294967295 w);rw[h.U]at O1;rw[h.X]at O2;rw[h.h3]at O3;have BR:=Y (fun w=>DQ An r.name.length cn (.slice At r.tg.length ct) (.slice Am r.ml.length cm) r h.hr w);rw[<-h.hS]at BR;have hb:=Y (fun w=>vF r.O r.N w);rw[z]at hb;have ZL:=vA (vn:=.slice An r.name.length cn) (vt:=uz) (vm:=uz) (ye r);have ZC:=Y (wR (vn:=.slice An r.name.length cn) (vt:=uz) (vm:=uz) (r:=vC r) J J J);have RW:xJ w cs r:=gR;have HE:Hid (Dx r=_):=Y cX;generalize Dx r=res at*;rw[hE,hw]at HE;have h16:=h.hr.1;have MA:Hid ((cs.drop 4).take 18=r.ad.cells):=Y dc;have M4:cs[4]?=some (.int .i64 r.ad.fam):=by exact sg
 have M21:cs[21]?=some (.int .i64 r.ad.hk):=by exact rP
 have S5:=FP (vn:=.slice An r.name.length cn) (vt:=uz) (vm:=uz) (ye r) r.ad;have l5:=vA (vn:=.slice An r.name.length cn) (vt:=uz) (vm:=uz) (r:={vC r with ad:=r.ad}) ⟨h16,J⟩;have R5:xJ w (vX (.slice An r.name.length cn) uz uz {vC r with ad:=r.ad}) {vC r with ad:=r.ad}:=ji;have SM:=Y (fun w' (b:al w w')=>zJ _ cs {vC r with ad:=r.ad} r w' (R5.G b) (RW.G b));have CA:=Y (fun w=>Ad r.ad h16 w);have AL:=r.ad.uT h16;have A1:=Y r.ad.xW;clear h R5 RW z hE hw;generalize decide ({vC r with ad:=r.ad}=r)=sb at*;generalize vX (.slice An r.name.length cn) uz uz {vC r with ad:=r.ad}=L5 at*;generalize r.ad.check=ck,r.ad.fam=fm at*;generalize r.ad.hk=zn,r.ad.cells=LA at*;generalize vX (.slice An r.name.length cn) uz uz (vC r)=L4 at*;generalize r.name.length=nn,r.tg.length=nt at*;generalize r.ml.length=nm,r.O=O at*;generalize r.N=N,r.ak=ak at*;obtain⟨e,he⟩:∃e:Int,e=if ck≠0\/fm≠4\/zn≠0 then 10 else 0:=gG
 rw[<-he]at HE;have HEE:=Y he;clear he;have hB0:Below w.heap.size w (w.alloc (.cells cs.toArray 119)):=gF;have B0:=F.new w 119 cs;go_enter func161,ntmps161;go_wp2_with fail;refine(CN.out _ hB0).mono ?_;rintro _ w1 ⟨rfl,rfl⟩;go_wp2_with fail;refine(O1.out _).mono ?_;rintro _ w1 ⟨rfl,rfl⟩;go_wp2_with fail;refine(O2.out _).mono ?_;rintro _ w1 ⟨rfl,rfl⟩;go_wp2_with fail;refine(O3.out _).mono ?_;rintro _ w1 ⟨rfl,rfl⟩;clear O1 O2 O3 CN;go_wp2_with(refine ur (.load 119 (.tmp 1)) J ?_;go_must(refine uu J _ _ J w.heap.size 0 J B0 33 I _ underlying119 J uU cs (wP I) ?_));refine(BR.out _).mono ?_;rintro _ w2 ⟨rfl,b2⟩;have B1':=(B0.G b2 B0.lt).alloc (.cells wm.toArray 119);have ty:=um hB0 hB0.size b2;have aB:w.heap.size<w2.heap.size:=iJ;clear B0 hB0 b2 BR L0 L1 L2 L3;go_wp2_with(refine ur (.store 119 (.tmp 4) (.tmp 27)) J (ab J w2.heap.size 0 L4 (F.wE _ _ wm _ ap) bj cZ ZC.out ?_));intro w3 hb3 hg3 hs3;rw[List.drop_of_length_le bj,List.append_nil]at hb3;have B4:=hb3;have B1:F w3 w.heap.size 119 cs:=kB;have HB:al w w3:=ic;clear hb3 hg3 ty B1' hs3;have u1:=B1.M 1 M1;have u2:=B1.M 2 M2;go_wp2_with fail;refine(hb.out _).mono ?_;rintro _ w4 ⟨rfl,rfl⟩;clear hb u1 u2 M1 M2;go_wp2_with(first
  |(refine ur (.load 24 (.tmp 44)) rfl ?_;refine uu rfl _ _ rfl w.heap.size 4 rfl B1 18 I _ underlying24 rfl wD LA MA.out ?_)
  |(refine ur (.store 24 (.tmp 46) (.tmp 45)) rfl ?_;refine Ej rfl _ _ _ rfl w2.heap.size 4 rfl LA rfl B4 I dd A1.out ?_))
 intro w4 hb4 hg4 hs4;replace B4:=hb4;replace B1:=B1.grown hg4 aA;replace HB:=uq HB hg4 HB.size I;clear hb4 hg4 hs4
 (try rw[AL,S5]at B4)
 go_wp2_with(refine ur (.load 24 (.tmp 47)) J ?_;go_must(refine uu J _ _ J w.heap.size 4 J B1 18 I _ underlying24 J wD LA MA.out ?_));refine(CA.out _).mono ?_;rintro _ w6 ⟨rfl,b6⟩;replace B1:=B1.G b6 B1.lt;replace B4:=B4.G b6 B4.lt;replace HB:=um HB HB.size b6;have u4:=B1.M 4 M4;have u21:=B1.M 21 M21;clear CA b6 M4 M21 MA S5 A1;by_cases U:ck=0
 ·
  have e1:(ck !=0)=false:=iA;by_cases X:fm=4
  ·
   have e2:(fm !=4)=false:=gv;by_cases h3:zn=0
   ·
    have e3:(zn !=0)=false:=jc;have hr:=HEE.out;rw[if_neg bi]at hr;subst hr;clear HEE U X h3;have hr0:=Y (HE.out.trans (if_neg ap));clear HE;go_wp2_with(first
     |(refine ur (.load 119 (.tmp 4)) rfl ?_;refine u6 (by kernel_rfl) 119 (.tmp 4) rfl w2.heap.size 0 rfl B4 33 I _ underlying119 rfl uU L5 (wP I) ?_)
     |(refine ur (.load 119 (.tmp 1)) rfl ?_;refine u6 (by kernel_rfl) 119 (.tmp 1) rfl w.heap.size 0 rfl B1 33 I _ underlying119 rfl uU cs (wP I) ?_))
    refine(SM.out _ HB).mono ?_;rintro _ w9 ⟨rfl,b9⟩;have HB9:=um HB HB.size b9;cases sb with
    |false=>have hr1:res=5:=il;subst hr1;clear hr0;exact pw
    |true=>have hr1:res=0:=il;subst hr1;clear hr0;exact pw
   ·have e3:(zn !=0)=true:=jc;have hr:=HEE.out;rw[if_pos (.inr (.inr h3))]at hr;subst hr;clear HEE U X h3;have hr0:res=_:=io;subst hr0;clear HE;exact pg
  ·have e2:(fm !=4)=true:=gv;have hr:=HEE.out;rw[if_pos (.inr (.inl X))]at hr;subst hr;clear HEE U X;have hr0:res=_:=io;subst hr0;clear HE;exact pg
 ·have e1:(ck !=0)=true:=iA;have hr:=HEE.out;rw[if_pos (.inl U)]at hr;subst hr;clear HEE U;have hr0:res=_:=io;subst hr0;clear HE;exact pg
theorem ab6(cs:List Value)(r:RR)(w:World)(h:Good cs r w An cn At ct Am cm)(z:uQ r.O r.N=28):Calls prog 161 #[.agg cs.toArray] w (uI (.int .i64 (Dx r)) w):=by
 have hw:Fs r={vC r with ad:=r.ad}:=iX;have hE:yC r=(if r.ad.check≠0\/r.ad.fam≠6\/r.ad.hk≠0 then 10 else 0):=hU;have hl:cs.length=33:=iD;have L0:∀hi:0<cs.length,cs[0]'hi= .slice An r.name.length cn:=iL;have L1:∀hi:1<cs.length,cs[1]'hi= .int .i64 r.O:=iL;have L2:∀hi:2<cs.length,cs[2]'hi= .int .i64 r.N:=iL;have L3:∀hi:3<cs.length,cs[3]'hi= .int .i64 r.ak:=iL;have M1:cs[1]?=some (.int .i64 r.O):=cV;have M2:cs[2]?=some (.int .i64 r.N):=cV;have CN:=Y (fun w' (b:al w w')=>vD An cn r.name w' (h.hN.G b).1 cW);rw[h.h0]at CN;have O1:=Y (fun w=>vk r.O 65535 w);have O2:=Y (fun w=>vk r.N 65535 w);have O3:=Y (fun w=>vk r.ak 4294967295 w);rw[h.U]at O1;rw[h.X]at O2;rw[h.h3]at O3;have BR:=Y (fun w=>DQ An r.name.length cn (.slice At r.tg.length ct) (.slice Am r.ml.length cm) r h.hr w);rw[<-h.hS]at BR;have hb:=Y (fun w=>vF r.O r.N w);rw[z]at hb;have ZL:=vA (vn:=.slice An r.name.length cn) (vt:=uz) (vm:=uz) (ye r);have ZC:=Y (wR (vn:=.slice An r.name.length cn) (vt:=uz) (vm:=uz) (r:=vC r) J J J);have RW:xJ w cs r:=gR;have HE:Hid (Dx r=_):=Y cX;generalize Dx r=res at*;rw[hE,hw]at HE;have h16:=h.hr.1;have MA:Hid ((cs.drop 4).take 18=r.ad.cells):=Y dc;have M4:cs[4]?=some (.int .i64 r.ad.fam):=by exact sg
 have M21:cs[21]?=some (.int .i64 r.ad.hk):=by exact rP
 have S5:=FP (vn:=.slice An r.name.length cn) (vt:=uz) (vm:=uz) (ye r) r.ad;have l5:=vA (vn:=.slice An r.name.length cn) (vt:=uz) (vm:=uz) (r:={vC r with ad:=r.ad}) ⟨h16,J⟩;have R5:xJ w (vX (.slice An r.name.length cn) uz uz {vC r with ad:=r.ad}) {vC r with ad:=r.ad}:=ji;have SM:=Y (fun w' (b:al w w')=>zJ _ cs {vC r with ad:=r.ad} r w' (R5.G b) (RW.G b));have CA:=Y (fun w=>Ad r.ad h16 w);have AL:=r.ad.uT h16;have A1:=Y r.ad.xW;clear h R5 RW z hE hw;generalize decide ({vC r with ad:=r.ad}=r)=sb at*;generalize vX (.slice An r.name.length cn) uz uz {vC r with ad:=r.ad}=L5 at*;generalize r.ad.check=ck,r.ad.fam=fm at*;generalize r.ad.hk=zn,r.ad.cells=LA at*;generalize vX (.slice An r.name.length cn) uz uz (vC r)=L4 at*;generalize r.name.length=nn,r.tg.length=nt at*;generalize r.ml.length=nm,r.O=O at*;generalize r.N=N,r.ak=ak at*;obtain⟨e,he⟩:∃e:Int,e=if ck≠0\/fm≠6\/zn≠0 then 10 else 0:=gG
 rw[<-he]at HE;have HEE:=Y he;clear he;have hB0:Below w.heap.size w (w.alloc (.cells cs.toArray 119)):=gF;have B0:=F.new w 119 cs;go_enter func161,ntmps161;go_wp2_with fail;refine(CN.out _ hB0).mono ?_;rintro _ w1 ⟨rfl,rfl⟩;go_wp2_with fail;refine(O1.out _).mono ?_;rintro _ w1 ⟨rfl,rfl⟩;go_wp2_with fail;refine(O2.out _).mono ?_;rintro _ w1 ⟨rfl,rfl⟩;go_wp2_with fail;refine(O3.out _).mono ?_;rintro _ w1 ⟨rfl,rfl⟩;clear O1 O2 O3 CN;go_wp2_with(refine ur (.load 119 (.tmp 1)) J ?_;go_must(refine uu J _ _ J w.heap.size 0 J B0 33 I _ underlying119 J uU cs (wP I) ?_));refine(BR.out _).mono ?_;rintro _ w2 ⟨rfl,b2⟩;have B1':=(B0.G b2 B0.lt).alloc (.cells wm.toArray 119);have ty:=um hB0 hB0.size b2;have aB:w.heap.size<w2.heap.size:=iJ;clear B0 hB0 b2 BR L0 L1 L2 L3;go_wp2_with(refine ur (.store 119 (.tmp 4) (.tmp 27)) J (ab J w2.heap.size 0 L4 (F.wE _ _ wm _ ap) bj cZ ZC.out ?_));intro w3 hb3 hg3 hs3;rw[List.drop_of_length_le bj,List.append_nil]at hb3;have B4:=hb3;have B1:F w3 w.heap.size 119 cs:=kB;have HB:al w w3:=ic;clear hb3 hg3 ty B1' hs3;have u1:=B1.M 1 M1;have u2:=B1.M 2 M2;go_wp2_with fail;refine(hb.out _).mono ?_;rintro _ w4 ⟨rfl,rfl⟩;clear hb u1 u2 M1 M2;go_wp2_with(first
  |(refine ur (.load 24 (.tmp 44)) rfl ?_;refine uu rfl _ _ rfl w.heap.size 4 rfl B1 18 I _ underlying24 rfl wD LA MA.out ?_)
  |(refine ur (.store 24 (.tmp 46) (.tmp 45)) rfl ?_;refine Ej rfl _ _ _ rfl w2.heap.size 4 rfl LA rfl B4 I dd A1.out ?_))
 intro w4 hb4 hg4 hs4;replace B4:=hb4;replace B1:=B1.grown hg4 aA;replace HB:=uq HB hg4 HB.size I;clear hb4 hg4 hs4
 (try rw[AL,S5]at B4)
 go_wp2_with(refine ur (.load 24 (.tmp 47)) J ?_;go_must(refine uu J _ _ J w.heap.size 4 J B1 18 I _ underlying24 J wD LA MA.out ?_));refine(CA.out _).mono ?_;rintro _ w6 ⟨rfl,b6⟩;replace B1:=B1.G b6 B1.lt;replace B4:=B4.G b6 B4.lt;replace HB:=um HB HB.size b6;have u4:=B1.M 4 M4;have u21:=B1.M 21 M21;clear CA b6 M4 M21 MA S5 A1;by_cases U:ck=0
 ·
  have e1:(ck !=0)=false:=iA;by_cases X:fm=6
  ·
   have e2:(fm !=6)=false:=gv;by_cases h3:zn=0
   ·
    have e3:(zn !=0)=false:=jc;have hr:=HEE.out;rw[if_neg bi]at hr;subst hr;clear HEE U X h3;have hr0:=Y (HE.out.trans (if_neg ap));clear HE;go_wp2_with(first
     |(refine ur (.load 119 (.tmp 4)) rfl ?_;refine u6 (by kernel_rfl) 119 (.tmp 4) rfl w2.heap.size 0 rfl B4 33 I _ underlying119 rfl uU L5 (wP I) ?_)
     |(refine ur (.load 119 (.tmp 1)) rfl ?_;refine u6 (by kernel_rfl) 119 (.tmp 1) rfl w.heap.size 0 rfl B1 33 I _ underlying119 rfl uU cs (wP I) ?_))
    refine(SM.out _ HB).mono ?_;rintro _ w9 ⟨rfl,b9⟩;have HB9:=um HB HB.size b9;cases sb with
    |false=>have hr1:res=5:=il;subst hr1;clear hr0;exact pw
    |true=>have hr1:res=0:=il;subst hr1;clear hr0;exact pw
   ·have e3:(zn !=0)=true:=jc;have hr:=HEE.out;rw[if_pos (.inr (.inr h3))]at hr;subst hr;clear HEE U X h3;have hr0:res=_:=io;subst hr0;clear HE;exact pg
  ·have e2:(fm !=6)=true:=gv;have hr:=HEE.out;rw[if_pos (.inr (.inl X))]at hr;subst hr;clear HEE U X;have hr0:res=_:=io;subst hr0;clear HE;exact pg
 ·have e1:(ck !=0)=true:=iA;have hr:=HEE.out;rw[if_pos (.inl U)]at hr;subst hr;clear HEE U;have hr0:res=_:=io;subst hr0;clear HE;exact pg
theorem ad4(cs:List Value)(r:RR)(w:World)(h:Good cs r w An cn At ct Am cm)(z:uQ r.O r.N=0):Calls prog 161 #[.agg cs.toArray] w (uI (.int .i64 (Dx r)) w):=by
 have hw:Fs r={vC r with raw:=r.raw}:=iX;have hE:yC r=(if 65535<r.raw.length then 3 else 0):=hU;have hl:cs.length=33:=iD;have L0:∀hi:0<cs.length,cs[0]'hi= .slice An r.name.length cn:=iL;have L1:∀hi:1<cs.length,cs[1]'hi= .int .i64 r.O:=iL;have L2:∀hi:2<cs.length,cs[2]'hi= .int .i64 r.N:=iL;have L3:∀hi:3<cs.length,cs[3]'hi= .int .i64 r.ak:=iL;have M1:cs[1]?=some (.int .i64 r.O):=cV;have M2:cs[2]?=some (.int .i64 r.N):=cV;have CN:=Y (fun w' (b:al w w')=>vD An cn r.name w' (h.hN.G b).1 cW);rw[h.h0]at CN;have O1:=Y (fun w=>vk r.O 65535 w);have O2:=Y (fun w=>vk r.N 65535 w);have O3:=Y (fun w=>vk r.ak 4294967295 w);rw[h.U]at O1;rw[h.X]at O2;rw[h.h3]at O3;have BR:=Y (fun w=>DQ An r.name.length cn (.slice At r.tg.length ct) (.slice Am r.ml.length cm) r h.hr w);rw[<-h.hS]at BR;have hb:=Y (fun w=>vF r.O r.N w);rw[z]at hb;have ZL:=vA (vn:=.slice An r.name.length cn) (vt:=uz) (vm:=uz) (ye r);have ZC:=Y (wR (vn:=.slice An r.name.length cn) (vt:=uz) (vm:=uz) (r:=vC r) J J J);have RW:xJ w cs r:=gR;have HE:Hid (Dx r=_):=Y cX;generalize Dx r=res at*;rw[hE,hw]at HE;have agn:=h.agn;have M32:cs[32]?=some (.string (bs r.raw)):=by rw[h.hS];exact Jc h.hr
 have S5:=Lv (vn:=.slice An r.name.length cn) (vt:=uz) (vm:=uz) (ye r) r.raw;have l5:=vA (vn:=.slice An r.name.length cn) (vt:=uz) (vm:=uz) (r:={vC r with raw:=r.raw}) ⟨J,J⟩;have R5:xJ w (vX (.slice An r.name.length cn) uz uz {vC r with raw:=r.raw}) {vC r with raw:=r.raw}:=⟨An,cn,none,0,none,0,J,⟨J,J⟩,h.hN,xE.nil w,xE.nil w,h.agn⟩;have SM:=Y (fun w' (b:al w w')=>zJ _ cs {vC r with raw:=r.raw} r w' (R5.G b) (RW.G b));clear h R5 RW z hE hw;generalize decide ({vC r with raw:=r.raw}=r)=sb at*;generalize vX (.slice An r.name.length cn) uz uz {vC r with raw:=r.raw}=L5 at*;generalize r.raw=raw at*;generalize vX (.slice An r.name.length cn) uz uz (vC r)=L4 at*;generalize r.name.length=nn,r.tg.length=nt at*;generalize r.ml.length=nm,r.O=O at*;generalize r.N=N,r.ak=ak at*;have hB0:Below w.heap.size w (w.alloc (.cells cs.toArray 119)):=gF;have B0:=F.new w 119 cs;go_enter func161,ntmps161;go_wp2_with fail;refine(CN.out _ hB0).mono ?_;rintro _ w1 ⟨rfl,rfl⟩;go_wp2_with fail;refine(O1.out _).mono ?_;rintro _ w1 ⟨rfl,rfl⟩;go_wp2_with fail;refine(O2.out _).mono ?_;rintro _ w1 ⟨rfl,rfl⟩;go_wp2_with fail;refine(O3.out _).mono ?_;rintro _ w1 ⟨rfl,rfl⟩;clear O1 O2 O3 CN;go_wp2_with(refine ur (.load 119 (.tmp 1)) J ?_;go_must(refine uu J _ _ J w.heap.size 0 J B0 33 I _ underlying119 J uU cs (wP I) ?_));refine(BR.out _).mono ?_;rintro _ w2 ⟨rfl,b2⟩;have B1':=(B0.G b2 B0.lt).alloc (.cells wm.toArray 119);have ty:=um hB0 hB0.size b2;have aB:w.heap.size<w2.heap.size:=iJ;clear B0 hB0 b2 BR L0 L1 L2 L3;go_wp2_with(refine ur (.store 119 (.tmp 4) (.tmp 27)) J (ab J w2.heap.size 0 L4 (F.wE _ _ wm _ ap) bj cZ ZC.out ?_));intro w3 hb3 hg3 hs3;rw[List.drop_of_length_le bj,List.append_nil]at hb3;have B4:=hb3;have B1:F w3 w.heap.size 119 cs:=kB;have HB:al w w3:=ic;clear hb3 hg3 ty B1' hs3;have u1:=B1.M 1 M1;have u2:=B1.M 2 M2;go_wp2_with fail;refine(hb.out _).mono ?_;rintro _ w4 ⟨rfl,rfl⟩;clear hb u1 u2 M1 M2;have u32:=B1.M 32 M32;go_wp2_with(refine ur (.store 9 (.tmp 36) (.tmp 35)) J (af J w2.heap.size 32 (.string (bs raw)) B4 I K9 ?_));clear u32;intro w4 hb4 hg4 hs4;replace B4:=hb4;replace B1:=B1.grown hg4 aA;replace HB:=uq HB hg4 HB.size I;clear hb4 hg4 hs4
 (try rw[S5]at B4)
 have u32:=B1.M 32 M32;clear S5 M32;by_cases U:65535<raw.length
 ·have e1:(65535:Int)<raw.length:=I;rw[if_pos U]at HE;have hr0:res=_:=io;subst hr0;clear HE;exact pg
 ·
  have e1:¬(65535:Int)<raw.length:=I;rw[if_neg U]at HE;have hr0:=Y (HE.out.trans (if_neg ap));clear HE;go_wp2_with(first
   |(refine ur (.load 119 (.tmp 4)) rfl ?_;refine u6 (by kernel_rfl) 119 (.tmp 4) rfl w2.heap.size 0 rfl B4 33 I _ underlying119 rfl uU L5 (wP I) ?_)
   |(refine ur (.load 119 (.tmp 1)) rfl ?_;refine u6 (by kernel_rfl) 119 (.tmp 1) rfl w.heap.size 0 rfl B1 33 I _ underlying119 rfl uU cs (wP I) ?_))
  refine(SM.out _ HB).mono ?_;rintro _ w9 ⟨rfl,b9⟩;have HB9:=um HB HB.size b9;cases sb with
  |false=>have hr1:res=5:=il;subst hr1;clear hr0;exact pw
  |true=>have hr1:res=0:=il;subst hr1;clear hr0;exact pw
theorem ab7(cs:List Value)(r:RR)(w:World)(h:Good cs r w An cn At ct Am cm)(z:uQ r.O r.N=33):Calls prog 161 #[.agg cs.toArray] w (uI (.int .i64 (Dx r)) w):=by
 have hw:Fs r={vC r with pri:=r.pri,we:=r.we,po:=r.po,tg:=r.tg}:=iX;have hE:yC r=(if([r.pri,r.we,r.po].all (yo 65535))then uE r.tg else 4):=hU;have hl:cs.length=33:=iD;have L0:∀hi:0<cs.length,cs[0]'hi= .slice An r.name.length cn:=iL;have L1:∀hi:1<cs.length,cs[1]'hi= .int .i64 r.O:=iL;have L2:∀hi:2<cs.length,cs[2]'hi= .int .i64 r.N:=iL;have L3:∀hi:3<cs.length,cs[3]'hi= .int .i64 r.ak:=iL;have M1:cs[1]?=some (.int .i64 r.O):=cV;have M2:cs[2]?=some (.int .i64 r.N):=cV;have CN:=Y (fun w' (b:al w w')=>vD An cn r.name w' (h.hN.G b).1 cW);rw[h.h0]at CN;have O1:=Y (fun w=>vk r.O 65535 w);have O2:=Y (fun w=>vk r.N 65535 w);have O3:=Y (fun w=>vk r.ak 4294967295 w);rw[h.U]at O1;rw[h.X]at O2;rw[h.h3]at O3;have BR:=Y (fun w=>DQ An r.name.length cn (.slice At r.tg.length ct) (.slice Am r.ml.length cm) r h.hr w);rw[<-h.hS]at BR;have hb:=Y (fun w=>vF r.O r.N w);rw[z]at hb;have ZL:=vA (vn:=.slice An r.name.length cn) (vt:=uz) (vm:=uz) (ye r);have ZC:=Y (wR (vn:=.slice An r.name.length cn) (vt:=uz) (vm:=uz) (r:=vC r) J J J);have RW:xJ w cs r:=gR;have HE:Hid (Dx r=_):=Y cX;generalize Dx r=res at*;rw[hE,hw]at HE;have M22:cs[22]?=some (.slice At r.tg.length ct):=kE;have M24:cs[24]?=some (.int .i64 r.pri):=by rw[h.hS];exact I8 h.hr
 have M25:cs[25]?=some (.int .i64 r.we):=by rw[h.hS];exact I9 h.hr
 have M26:cs[26]?=some (.int .i64 r.po):=by rw[h.hS];exact Jb h.hr
 have S5:=Y (show((((vX (.slice An r.name.length cn) uz uz (vC r)).set 24 (.int .i64 r.pri)).set 25 (.int .i64 r.we)).set 26 (.int .i64 r.po)).set 22 (.slice At r.tg.length ct)=vX (.slice An r.name.length cn) (.slice At r.tg.length ct) uz {vC r with pri:=r.pri,we:=r.we,po:=r.po,tg:=r.tg}by
  rw[Lu (ye r),Oa ⟨J,J⟩,Ob ⟨J,J⟩,Cn ⟨J,J⟩];rfl)
 have l5:=vA (vn:=.slice An r.name.length cn) (vt:=.slice At r.tg.length ct) (vm:=uz) (r:={vC r with pri:=r.pri,we:=r.we,po:=r.po,tg:=r.tg}) ⟨J,J⟩;have R5:xJ w (vX (.slice An r.name.length cn) (.slice At r.tg.length ct) uz {vC r with pri:=r.pri,we:=r.we,po:=r.po,tg:=r.tg}) {vC r with pri:=r.pri,we:=r.we,po:=r.po,tg:=r.tg}:=jm;have SM:=Y (fun w' (b:al w w')=>zJ _ cs {vC r with pri:=r.pri,we:=r.we,po:=r.po,tg:=r.tg} r w' (R5.G b) (RW.G b));have CT:=Y (fun w' (b:al w w')=>vD At ct r.tg w' (h.hT.G b).1 cY);have Q1:=Y (fun w=>vk r.pri 65535 w);have Q2:=Y (fun w=>vk r.we 65535 w);have Q3:=Y (fun w=>vk r.po 65535 w);have h3:[r.pri,r.we,r.po].all (yo 65535)=(yo 65535 r.pri&&(yo 65535 r.we&&yo 65535 r.po)):=ap;rw[h3]at HE;clear h R5 RW z hE hw h3;generalize decide ({vC r with pri:=r.pri,we:=r.we,po:=r.po,tg:=r.tg}=r)=sb at*;generalize vX (.slice An r.name.length cn) (.slice At r.tg.length ct) uz {vC r with pri:=r.pri,we:=r.we,po:=r.po,tg:=r.tg}=L5 at*;generalize uE r.tg=ec at*;generalize yo 65535 r.pri=b1 at*;generalize yo 65535 r.we=b2 at*;generalize yo 65535 r.po=b3 at*;generalize r.pri=n1,r.we=n2,r.po=n3 at*;generalize vX (.slice An r.name.length cn) uz uz (vC r)=L4 at*;generalize r.name.length=nn,r.tg.length=nt at*;generalize r.ml.length=nm,r.O=O at*;generalize r.N=N,r.ak=ak at*;have hB0:Below w.heap.size w (w.alloc (.cells cs.toArray 119)):=gF;have B0:=F.new w 119 cs;go_enter func161,ntmps161;go_wp2_with fail;refine(CN.out _ hB0).mono ?_;rintro _ w1 ⟨rfl,rfl⟩;go_wp2_with fail;refine(O1.out _).mono ?_;rintro _ w1 ⟨rfl,rfl⟩;go_wp2_with fail;refine(O2.out _).mono ?_;rintro _ w1 ⟨rfl,rfl⟩;go_wp2_with fail;refine(O3.out _).mono ?_;rintro _ w1 ⟨rfl,rfl⟩;clear O1 O2 O3 CN;go_wp2_with(refine ur (.load 119 (.tmp 1)) J ?_;go_must(refine uu J _ _ J w.heap.size 0 J B0 33 I _ underlying119 J uU cs (wP I) ?_));refine(BR.out _).mono ?_;rintro _ w2 ⟨rfl,b2⟩;have B1':=(B0.G b2 B0.lt).alloc (.cells wm.toArray 119);have ty:=um hB0 hB0.size b2;have aB:w.heap.size<w2.heap.size:=iJ;clear B0 hB0 b2 BR L0 L1 L2 L3;go_wp2_with(refine ur (.store 119 (.tmp 4) (.tmp 27)) J (ab J w2.heap.size 0 L4 (F.wE _ _ wm _ ap) bj cZ ZC.out ?_));intro w3 hb3 hg3 hs3;rw[List.drop_of_length_le bj,List.append_nil]at hb3;have B4:=hb3;have B1:F w3 w.heap.size 119 cs:=kB;have HB:al w w3:=ic;clear hb3 hg3 ty B1' hs3;have u1:=B1.M 1 M1;have u2:=B1.M 2 M2;go_wp2_with fail;refine(hb.out _).mono ?_;rintro _ w4 ⟨rfl,rfl⟩;clear hb u1 u2 M1 M2;have u24:=B1.M 24 M24;go_wp2_with(refine ur (.store 3 (.tmp 90) (.tmp 89)) J (af J w2.heap.size 24 (.int .i64 n1) B4 I uZ ?_));clear u24;intro w4 hb4 hg4 hs4;replace B4:=hb4;replace B1:=B1.grown hg4 aA;replace HB:=uq HB hg4 HB.size I;clear hb4 hg4 hs4;have u25:=B1.M 25 M25;go_wp2_with(refine ur (.store 3 (.tmp 93) (.tmp 92)) J (af J w2.heap.size 25 (.int .i64 n2) B4 aA uZ ?_));clear u25;intro w4 hb4 hg4 hs4;replace B4:=hb4;replace B1:=B1.grown hg4 aA;replace HB:=uq HB hg4 HB.size I;clear hb4 hg4 hs4;have u26:=B1.M 26 M26;go_wp2_with(refine ur (.store 3 (.tmp 96) (.tmp 95)) J (af J w2.heap.size 26 (.int .i64 n3) B4 aA uZ ?_));clear u26;intro w4 hb4 hg4 hs4;replace B4:=hb4;replace B1:=B1.grown hg4 aA;replace HB:=uq HB hg4 HB.size I;clear hb4 hg4 hs4;have u22:=B1.M 22 M22;go_wp2_with(refine ur (.store 26 (.tmp 99) (.tmp 98)) J (af J w2.heap.size 22 (.slice At nt ct) B4 aA vO ?_));clear u22;intro w4 hb4 hg4 hs4;replace B4:=hb4;replace B1:=B1.grown hg4 aA;replace HB:=uq HB hg4 HB.size I;clear hb4 hg4 hs4;rw[S5.out]at B4;have u22:=B1.M 22 M22;go_wp2_with fail;refine(CT.out _ HB).mono ?_;rintro _ w5 ⟨rfl,rfl⟩;clear CT u22 M22 S5;have u24:=B1.M 24 M24;have u25:=B1.M 25 M25;have u26:=B1.M 26 M26;clear M24 M25 M26;go_wp2_with fail;refine(Q1.out _).mono ?_;rintro _ w5 ⟨rfl,rfl⟩;clear Q1;cases b1 with
 |false=>have HE:Hid (res=if(4:Int)≠0 then 4 else if sb=true then 0 else 5):=HE;have hr0:res=_:=io;subst hr0;clear HE;exact pg
 |true=>
 go_wp2_with fail;refine(Q2.out _).mono ?_;rintro _ w5 ⟨rfl,rfl⟩;clear Q2;cases b2 with
 |false=>have HE:Hid (res=if(4:Int)≠0 then 4 else if sb=true then 0 else 5):=HE;have hr0:res=_:=io;subst hr0;clear HE;exact pg
 |true=>
 go_wp2_with fail;refine(Q3.out _).mono ?_;rintro _ w5 ⟨rfl,rfl⟩;clear Q3;cases b3 with
 |false=>have HE:Hid (res=if(4:Int)≠0 then 4 else if sb=true then 0 else 5):=HE;have hr0:res=_:=io;subst hr0;clear HE;exact pg
 |true=>
 replace HE:Hid (res=if ec≠0 then ec else if sb=true then 0 else 5):=HE;obtain⟨e,he⟩:∃e,e=ec:=gG;rw[<-he]at HE⊢;clear he;by_cases he0:e=0
 ·
  subst he0;have hr0:=Y (HE.out.trans (if_neg ap));clear HE;go_wp2_with(first
   |(refine ur (.load 119 (.tmp 4)) rfl ?_;refine u6 (by kernel_rfl) 119 (.tmp 4) rfl w2.heap.size 0 rfl B4 33 I _ underlying119 rfl uU L5 (wP I) ?_)
   |(refine ur (.load 119 (.tmp 1)) rfl ?_;refine u6 (by kernel_rfl) 119 (.tmp 1) rfl w.heap.size 0 rfl B1 33 I _ underlying119 rfl uU cs (wP I) ?_))
  refine(SM.out _ HB).mono ?_;rintro _ w9 ⟨rfl,b9⟩;have HB9:=um HB HB.size b9;cases sb with
  |false=>have hr1:res=5:=il;subst hr1;clear hr0;exact pw
  |true=>have hr1:res=0:=il;subst hr1;clear hr0;exact pw
 ·have hr0:=HE.out.trans (if_pos he0);subst hr0;have he1:(res==0)=false:=iM;clear HE he0;exact pg
def Jl(e0:Int)(Hh:List Int)(k:Nat):Int:=if e0≠0 then e0 else if(Hh.take k).all (yo 4294967295)then 0 else 4
theorem XO(e0:Int)(Hh:List Int):Jl e0 Hh 0=e0:=by
 unfold Jl;by_cases h:e0=0
 ·simp[h]
 ·simp[h]
theorem XP(e0:Int)(Hh:List Int)(k:Nat)(z:k<Hh.length):Jl e0 Hh (k+1)=if Jl e0 Hh k=0 then(if yo 4294967295 Hh[k]then 0 else 4)else Jl e0 Hh k:=by
 unfold Jl;rw[List.take_succ_eq_append_getElem z,List.all_append];by_cases h:e0=0
 ·simp only[h,ne_eq,not_true_eq_false,if_false];simp only[List.all_cons,List.all_nil,Bool.and_true];generalize yo 4294967295 Hh[k]=b;generalize(Hh.take k).all (yo 4294967295)=c;cases c<;>cases b<;>rfl
 ·simp[h]
theorem aaf(a b:Int)(Hh:List Int)(h:Hh.length=5):(if a≠0 then a else if b≠0 then b else if Hh.all (yo 4294967295)then 0 else 4)=Jl (if a=0 then b else a) Hh 5:=by
 unfold Jl;rw[List.take_of_length_le I];by_cases ha:a=0
 ·simp[ha]
 ·simp[ha]
theorem ad5(cs:List Value)(r:RR)(w:World)(h:Good cs r w An cn At ct Am cm)(z:uQ r.O r.N=6):Calls prog 161 #[.agg cs.toArray] w (uI (.int .i64 (Dx r)) w):=by
 have hw:Fs r={vC r with tg:=r.tg,ml:=r.ml,Hh:=r.Hh}:=iX;have hE:yC r=Jl (if uE r.tg=0 then uE r.ml else uE r.tg) r.Hh 5:=by rw[<-aaf _ _ _ h.hr.2];unfold yC;rw[z];rfl
 have hl:cs.length=33:=iD;have L0:∀hi:0<cs.length,cs[0]'hi= .slice An r.name.length cn:=iL;have L1:∀hi:1<cs.length,cs[1]'hi= .int .i64 r.O:=iL;have L2:∀hi:2<cs.length,cs[2]'hi= .int .i64 r.N:=iL;have L3:∀hi:3<cs.length,cs[3]'hi= .int .i64 r.ak:=iL;have M1:cs[1]?=some (.int .i64 r.O):=cV;have M2:cs[2]?=some (.int .i64 r.N):=cV;have CN:=Y (fun w' (b:al w w')=>vD An cn r.name w' (h.hN.G b).1 cW);rw[h.h0]at CN;have O1:=Y (fun w=>vk r.O 65535 w);have O2:=Y (fun w=>vk r.N 65535 w);have O3:=Y (fun w=>vk r.ak 4294967295 w);rw[h.U]at O1;rw[h.X]at O2;rw[h.h3]at O3;have BR:=Y (fun w=>DQ An r.name.length cn (.slice At r.tg.length ct) (.slice Am r.ml.length cm) r h.hr w);rw[<-h.hS]at BR;have hb:=Y (fun w=>vF r.O r.N w);rw[z]at hb;have ZL:=vA (vn:=.slice An r.name.length cn) (vt:=uz) (vm:=uz) (ye r);have ZC:=Y (wR (vn:=.slice An r.name.length cn) (vt:=uz) (vm:=uz) (r:=vC r) J J J);have RW:xJ w cs r:=gR;have HE:Hid (Dx r=_):=Y cX;generalize Dx r=res at*;rw[hE,hw]at HE;have h5:=h.hr.2;have M22:cs[22]?=some (.slice At r.tg.length ct):=kE;have M23:cs[23]?=some (.slice Am r.ml.length cm):=by rw[h.hS];exact I7 h.hr
 have MN:Hid ((cs.drop 27).take 5=vi r.Hh):=Y (by rw[h.hS];exact Fh h.hr);have MK:Hid (∀(i:Nat) (hi:i<r.Hh.length),cs[27+i]?=some (.int .i64 r.Hh[i])):=Y (fun i hi=>by rw[h.hS,V5 h.hr i I];simp[List.getD,hi]);have S5:=Y (show(((vX (.slice An r.name.length cn) uz uz (vC r)).set 22 (.slice At r.tg.length ct)).set 23 (.slice Am r.ml.length cm)).take 27++vi r.Hh++(((vX (.slice An r.name.length cn) uz uz (vC r)).set 22 (.slice At r.tg.length ct)).set 23 (.slice Am r.ml.length cm)).drop 32=vX (.slice An r.name.length cn) (.slice At r.tg.length ct) (.slice Am r.ml.length cm) {vC r with tg:=r.tg,ml:=r.ml,Hh:=r.Hh}by
  rw[Cn (ye r),N7 (ye r),JP (ye r) _ h5];rfl)
 have l5:=vA (vn:=.slice An r.name.length cn) (vt:=.slice At r.tg.length ct) (vm:=.slice Am r.ml.length cm) (r:={vC r with tg:=r.tg,ml:=r.ml,Hh:=r.Hh}) ⟨J,h5⟩;have R5:xJ w (vX (.slice An r.name.length cn) (.slice At r.tg.length ct) (.slice Am r.ml.length cm) {vC r with tg:=r.tg,ml:=r.ml,Hh:=r.Hh}) {vC r with tg:=r.tg,ml:=r.ml,Hh:=r.Hh}:=⟨An,cn,At,ct,Am,cm,J,⟨J,h5⟩,h.hN,h.hT,h.hM,by simp[vC,RR.zero]⟩;have SM:=Y (fun w' (b:al w w')=>zJ _ cs {vC r with tg:=r.tg,ml:=r.ml,Hh:=r.Hh} r w' (R5.G b) (RW.G b));have CT:=Y (fun w' (b:al w w')=>vD At ct r.tg w' (h.hT.G b).1 cY);have CM:=Y (fun w' (b:al w w')=>vD Am cm r.ml w' (h.hM.G b).1 (by have:=h.hM.2.2.1;omega));have NL:(vi r.Hh).length=5:=by simp[vi,h5]
 have N1:Hid (∀v∈vi r.Hh,v.oneCell'=true):=Y (fun v hv=>by obtain⟨b,_,rfl⟩:=List.mem_map.1 hv;rfl);clear h R5 RW z hE hw;generalize decide ({vC r with tg:=r.tg,ml:=r.ml,Hh:=r.Hh}=r)=sb at*;generalize vX (.slice An r.name.length cn) (.slice At r.tg.length ct) (.slice Am r.ml.length cm) {vC r with tg:=r.tg,ml:=r.ml,Hh:=r.Hh}=L5 at*;generalize uE r.tg=e1 at*;generalize uE r.ml=e2 at*;generalize r.Hh=Hh at*;generalize vi Hh=LN at*;generalize vX (.slice An r.name.length cn) uz uz (vC r)=L4 at*;generalize r.name.length=nn,r.tg.length=nt at*;generalize r.ml.length=nm,r.O=O at*;generalize r.N=N,r.ak=ak at*;obtain⟨e0,he0⟩:∃e0,e0=if e1=0 then e2 else e1:=gG
 rw[<-he0]at HE;have HE0:=Y he0;clear he0;have S0:=Y (XO e0 Hh);have hB0:Below w.heap.size w (w.alloc (.cells cs.toArray 119)):=gF;have B0:=F.new w 119 cs;go_enter func161,ntmps161;go_wp2_with fail;refine(CN.out _ hB0).mono ?_;rintro _ w1 ⟨rfl,rfl⟩;go_wp2_with fail;refine(O1.out _).mono ?_;rintro _ w1 ⟨rfl,rfl⟩;go_wp2_with fail;refine(O2.out _).mono ?_;rintro _ w1 ⟨rfl,rfl⟩;go_wp2_with fail;refine(O3.out _).mono ?_;rintro _ w1 ⟨rfl,rfl⟩;clear O1 O2 O3 CN;go_wp2_with(refine ur (.load 119 (.tmp 1)) J ?_;go_must(refine uu J _ _ J w.heap.size 0 J B0 33 I _ underlying119 J uU cs (wP I) ?_));refine(BR.out _).mono ?_;rintro _ w2 ⟨rfl,b2⟩;have B1':=(B0.G b2 B0.lt).alloc (.cells wm.toArray 119);have ty:=um hB0 hB0.size b2;have aB:w.heap.size<w2.heap.size:=iJ;clear B0 hB0 b2 BR L0 L1 L2 L3;go_wp2_with(refine ur (.store 119 (.tmp 4) (.tmp 27)) J (ab J w2.heap.size 0 L4 (F.wE _ _ wm _ ap) bj cZ ZC.out ?_));intro w3 hb3 hg3 hs3;rw[List.drop_of_length_le bj,List.append_nil]at hb3;have B4:=hb3;have B1:F w3 w.heap.size 119 cs:=kB;have HB:al w w3:=ic;clear hb3 hg3 ty B1' hs3;have u1:=B1.M 1 M1;have u2:=B1.M 2 M2;go_wp2_with fail;refine(hb.out _).mono ?_;rintro _ w4 ⟨rfl,rfl⟩;clear hb u1 u2 M1 M2;have u22:=B1.M 22 M22;go_wp2_with(refine ur (.store 26 (.tmp 120) (.tmp 119)) J (af J w2.heap.size 22 (.slice At nt ct) B4 I vO ?_));clear u22;intro w4 hb4 hg4 hs4;replace B4:=hb4;replace B1:=B1.grown hg4 aA;replace HB:=uq HB hg4 HB.size I;clear hb4 hg4 hs4;have u23:=B1.M 23 M23;go_wp2_with(refine ur (.store 26 (.tmp 123) (.tmp 122)) J (af J w2.heap.size 23 (.slice Am nm cm) B4 aA vO ?_));clear u23;intro w4 hb4 hg4 hs4;replace B4:=hb4;replace B1:=B1.grown hg4 aA;replace HB:=uq HB hg4 HB.size I;clear hb4 hg4 hs4;go_wp2_with(first
  |(refine ur (.load 117 (.tmp 124)) rfl ?_;refine uu rfl _ _ rfl w.heap.size 27 rfl B1 5 I _ underlying117 rfl xf LN MN.out ?_)
  |(refine ur (.store 117 (.tmp 126) (.tmp 125)) rfl ?_;refine Ej rfl _ _ _ rfl w2.heap.size 27 rfl LN rfl B4 aA (by rw[NL];exact xf) N1.out ?_))
 intro w4 hb4 hg4 hs4;replace B4:=hb4;replace B1:=B1.grown hg4 aA;replace HB:=uq HB hg4 HB.size I;clear hb4 hg4 hs4;rw[<-List.append_assoc,S5.out]at B4;have u22:=B1.M 22 M22;go_wp2_with fail;refine(CT.out _ HB).mono ?_;rintro _ w5 ⟨rfl,rfl⟩;clear CT u22 M22 S5 MN N1;have c23:=B1.M 23 M23;clear M23;go_upto_if 131 with fail;go_cut[3] (fun ev wx=>ev= .int .i64 e0/\w4=wx)
 case first=>
  by_cases U:e1=0
  ·have hr1:=Y (HE0.out.trans (if_pos U));have h1':(e1==0)=true:=iA;clear U;go_wp2_with fail;refine(CM.out _ HB).mono ?_;rintro _ w5 ⟨rfl,rfl⟩;exact tJ
  ·have hr1:=Y (HE0.out.trans (if_neg U));have h1':(e1==0)=false:=iA;clear U;exact tJ
 case rest=>
  obtain⟨rfl,rfl⟩:=hcut;clear c23 CM HE0;go_wp2_with fail;go_loopw[3,6] (fun ev iv wr=>∃k:Nat,k<=5/\iv= .int .i64 k/\ev= .int .i64 (Jl e0 Hh k)/\wr=w4) (fun _ iv _=>5-(intOf iv).toNat)
  case atStart=>exact⟨0,I,J,by rw[S0.out],J⟩
  case round=>
   obtain⟨k,z,rfl,rfl,rfl⟩:=hrel;by_cases aB:k<5
   ·
    have h1:(k:Int)<5:=I;have SS:=Y (XP e0 Hh k I);have hc:=B1.M (27+k) (MK.out k I);have Q:=Y (fun w=>vk (Hh[k]'I) 4294967295 w);obtain⟨es,hes⟩:∃es,es=Jl e0 Hh (k+1):=gG;rw[<-hes]at SS;have HES:=Y hes.symm;clear hes;generalize Jl e0 Hh k=ek at*;generalize yo 4294967295 (Hh[k]'I)=bk at*;generalize(Hh[k]'I)=nk at*;clear S0 MK;by_cases he:ek=0
    ·
     subst he;have S1:=Y (SS.out.trans (if_pos J));clear SS;go_wp2_with fail;refine(Q.out _).mono ?_;rintro _ w5 ⟨rfl,rfl⟩;cases bk with
     |false=>
      obtain rfl:es=4:=by simpa using S1.out
      exact sq
     |true=>
      obtain rfl:es=0:=by simpa using S1.out
      exact sq
    ·
     have S1:=Y (SS.out.trans (if_neg he));have he':(ek==0)=false:=iE;clear SS he;go_wp2_with fail;go_roundw
     case rel=>exact⟨k+1,I,gp,by rw[HES.out,S1.out],trivial⟩
     case measure=>simp[intOf];omega
   ·
    obtain rfl:k=5:=I;clear S0 MK aB;generalize Jl e0 Hh 5=e at*;by_cases he0:e=0
    ·
     subst he0;have hr0:=Y (HE.out.trans (if_neg ap));clear HE;go_wp2_with(first
      |(refine ur (.load 119 (.tmp 4)) rfl ?_;refine u6 (by kernel_rfl) 119 (.tmp 4) rfl w2.heap.size 0 rfl B4 33 I _ underlying119 rfl uU L5 (wP I) ?_)
      |(refine ur (.load 119 (.tmp 1)) rfl ?_;refine u6 (by kernel_rfl) 119 (.tmp 1) rfl w.heap.size 0 rfl B1 33 I _ underlying119 rfl uU cs (wP I) ?_))
     refine(SM.out _ HB).mono ?_;rintro _ w9 ⟨rfl,b9⟩;have HB9:=um HB HB.size b9;cases sb with
     |false=>have hr1:res=5:=il;subst hr1;clear hr0;exact pw
     |true=>have hr1:res=0:=il;subst hr1;clear hr0;exact pw
    ·have hr0:=HE.out.trans (if_pos he0);subst hr0;have he1:(res==0)=false:=iM;clear HE he0;exact pg
theorem yf(cs:List Value)(r:RR)(w:World)(h:xJ w cs r):Calls prog 161 #[.agg cs.toArray] w (uI (.int .i64 (uN r)) w):=by
 by_cases h0:uE r.name=0
 case neg=>
  have e:uN r=uE r.name:=by unfold uN;rw[if_pos h0]
  rw[e];exact Ku cs r w h h0
 by_cases Z:yo 65535 r.O=true/\yo 65535 r.N=true/\yo 4294967295 r.ak=true
 case neg=>
  have e:uN r=4:=by unfold uN;rw[if_neg bf,if_pos];simp only[List.all_cons,List.all_nil,Bool.and_true,Bool.and_eq_true];by_cases U:yo 65535 r.O=true<;>by_cases X:yo 65535 r.N=true<;>by_cases h3:yo 4294967295 r.ak=true<;>simp_all
  rw[e];exact Jk cs r w h h0 Z
 obtain⟨b1,b2,b3⟩:=Z;have e:uN r=Dx r:=by unfold uN Dx;rw[if_neg bf,if_neg (by simp[b1,b2,b3]),aae]
 rw[e];obtain⟨An,cn,At,ct,Am,cm,hS,hr,hN,hT,hM,agn⟩:=h;have g:Good cs r w An cn At ct Am cm:=⟨hS,hr,hN,hT,hM,agn,h0,b1,b2,b3⟩;rcases zQ r.O r.N with z|z|z|z|z|z
 ·exact ad3 cs r w g z
 ·exact ab6 cs r w g z
 ·exact ad2 cs r w g z
 ·exact ab7 cs r w g z
 ·exact ad5 cs r w g z
 ·exact ad4 cs r w g z
def DZ(lo:Nat)(w:World)(p:Option Addr):Option Co->Prop
 |none=>p=none
 |some T=>∃g,p=some ⟨g,0,none⟩/\lo<=g/\GM lo w g T
theorem DZ.G{p:Option Addr}{T:Option Co}(h:DZ lo w p T)(uw:lo<=w.heap.size)(Z:al w w'):DZ lo w' p T:=by
 cases T with
 |none=>exact h
 |some T=>obtain⟨g,U,X,h3⟩:=h;exact⟨g,U,X,h3.G uw Z⟩
def SI(lo:Nat)(p:Option Addr)(s:List UInt8)(e:Int)(T:Option Co)(w:World)(x:Ending)(w':World):Prop:=
 x= .returned (.tuple #[.string (bs s),.int .i64 e])/\DZ lo w' p T/\vV lo w w'
theorem BD(lo:Nat)(p:Option Addr)(T:Option Co)(A:Option Addr)(c:Nat)(n:List (List UInt8))(uG:Int)(w0 w:World)(h0:w0.heap.size<=lo)(hb0:al w0 w)(uw:lo<=w.heap.size)(hT:DZ lo w p T)(hA:xE w0 A c n)(hf:zm T 900000):
  Calls prog 112 #[.pointer p,.slice A n.length c,.int .i64 uG] w (SI lo p (vh T uG n) (uE n) (vL T uG n) w):=by
 cases T with
 |none=>obtain rfl:p=none:=hT;refine(GX A c n uG w (hA.G hb0)).mono ?_;rintro _ w' ⟨rfl,hB⟩;exact⟨J,J,vV.y9 hB uw⟩
 |some T=>obtain⟨g,rfl,X,h4⟩:=hT;refine(Nl lo g T A c n uG w h4 uw X (GL.of hA.1 hb0 h0) (hA.G hb0) (hf T J)).mono ?_;rintro _ w' ⟨rfl,h5,h6⟩;exact⟨J,⟨g,J,X,h5⟩,h6⟩
theorem yJ(n:Int)(w:World):Calls prog 84 #[.int .i64 2,.int .i64 n] w (uI (.string (bs (uA 2 n))) w):=wZ 2 n w
theorem zU(n:Int)(w:World):Calls prog 84 #[.int .i64 4,.int .i64 n] w (uI (.string (bs (uA 4 n))) w):=wZ 4 n w
theorem vV.vj(h:vV lo w w'){g:Nat}{cs:List Value}(Z:F w g 119 cs):F w' g 119 cs:=h.2 g _ cs Z az az
theorem PZ(cs:List Value)(r:RR)(uG:Int)(p:Option Addr)(w:World)(h:xJ w cs r)(hc:uN r≠0):
  Calls prog 114 #[.agg cs.toArray,.int .i64 uG,.pointer p] w (uI (.tuple #[.string (bs []),.int .i64 (uN r)]) w):=by
 have CK:=Y (fun w' (b:al w w')=>yf cs r w' (h.G b));have hl:cs.length=33:=gI;generalize uN r=e at*;have he:(e !=0)=true:=iS;clear hc h;have B0:=F.new w 119 cs;have HB0:Below w.heap.size w (w.alloc (.cells cs.toArray 119)):=gF;go_enter func114,ntmps114;exact pZ
theorem P4(cs:List Value)(r:RR)(uG:Int)(p:Option Addr)(w:World)(h:xJ w cs r)(hc:uN r=0)(z:uQ r.O r.N=0):
  Calls prog 114 #[.agg cs.toArray,.int .i64 uG,.pointer p] w (uI (.tuple #[.string (bs r.raw),.int .i64 0]) w):=by
 have CK:=Y (fun w' (b:al w w')=>yf cs r w' (h.G b));have hl:cs.length=33:=gI;have L1:cs[1]?=some (.int .i64 r.O):=gH;have L2:cs[2]?=some (.int .i64 r.N):=gH;have hb:=Y (fun w=>vF r.O r.N w);have L32:cs[32]?=some (.string (bs r.raw)):=ke;rw[z]at hb;rw[hc]at CK;clear h hc z;generalize r.O=O,r.N=N at*;have B0:=F.new w 119 cs;have HB0:Below w.heap.size w (w.alloc (.cells cs.toArray 119)):=gF;go_enter func114,ntmps114;go_wp2_with(refine ur (.load 119 (.tmp 3)) J ?_;go_must(refine uu J _ _ J w.heap.size 0 J B0 33 I _ underlying119 J uU cs (wP I) ?_));go_wp2_with fail;refine(CK.out _ HB0).mono ?_;rintro _ w2 ⟨rfl,b2⟩;have B:=B0.G b2 B0.lt;have HB:=um HB0 HB0.size b2;clear B0 HB0 b2 CK;have c1:=B.M 1 L1;have c2:=B.M 2 L2;go_wp2_with fail;refine(hb.out _).mono ?_;rintro _ w3 ⟨rfl,rfl⟩;clear hb c1 c2 L1 L2;have c32:=B.M 32 L32;clear L32;exact qA
theorem Nw(lo:Nat)(cs:List Value)(r:RR)(uG:Int)(p:Option Addr)(T:Option Co)(w0 w:World)(hh:xJ w0 cs r)(h0:w0.heap.size<=lo)(hb0:al w0 w)(uw:lo<=w.heap.size)(hT:DZ lo w p T)(hf:zm T 900000)(hc:uN r=0)(z:uQ r.O r.N=5\/uQ r.O r.N=12):
  Calls prog 114 #[.agg cs.toArray,.int .i64 uG,.pointer p] w (SI lo p (vh T uG r.tg) (uE r.tg) (vL T uG r.tg) w):=by
 have h:=hh.G hb0;have CK:=Y (fun w' (b:al w w')=>yf cs r w' (h.G b));have hl:cs.length=33:=gI;have L1:cs[1]?=some (.int .i64 r.O):=gH;have L2:cs[2]?=some (.int .i64 r.N):=gH;have hb:=Y (fun w=>vF r.O r.N w);obtain⟨At,ct,L22,hR⟩:∃At ct,cs[22]?=some (.slice At r.tg.length ct)/\xE w0 At ct r.tg:=by obtain⟨_,_,At,ct,_,_,rfl,hr,_,hR,_⟩:=hh;exact⟨At,ct,BS hr,hR⟩
 rw[hc]at CK;clear h hc;have PT:=Y (fun w' (b:al w w')=>BD lo p T At ct r.tg uG w0 w' h0 (um hb0 hb0.size b) (Nat.le_trans uw b.size) (hT.G uw b) hR hf);generalize vh T uG r.tg=s at*;generalize vL T uG r.tg=T' at*;generalize uE r.tg=e at*;generalize r.tg.length=n at*;generalize uQ r.O r.N=k at*;generalize r.O=O,r.N=N at*;clear hT hf hR hh hb0;rcases z with rfl|rfl;all_goals
  have B0:=F.new w 119 cs;have HB0:Below w.heap.size w (w.alloc (.cells cs.toArray 119)):=gF;go_enter func114,ntmps114;go_wp2_with(refine ur (.load 119 (.tmp 3)) J ?_;go_must(refine uu J _ _ J w.heap.size 0 J B0 33 I _ underlying119 J uU cs (wP I) ?_));go_wp2_with fail;refine(CK.out _ HB0).mono ?_;rintro _ w2 ⟨rfl,b2⟩;have B:=B0.G b2 B0.lt;have HB:=um HB0 HB0.size b2;clear B0 HB0 b2 CK;have c1:=B.M 1 L1;have c2:=B.M 2 L2;go_wp2_with fail;refine(hb.out _).mono ?_;rintro _ w3 ⟨rfl,rfl⟩;clear hb c1 c2 L1 L2;have c22:=B.M 22 L22;clear L22;go_wp2_with fail;refine(PT.out _ HB).mono ?_;rintro _ w3 ⟨rfl,hT3,hB3⟩;go_wp2_with fail;go_ret2;exact⟨J,hT3,(vV.y9 HB uw).trans hB3⟩
theorem Hb(cs:List Value)(r:RR)(uG:Int)(p:Option Addr)(w:World)(h:xJ w cs r)(hc:uN r=0)(z:uQ r.O r.N=1\/uQ r.O r.N=28):
  Calls prog 114 #[.agg cs.toArray,.int .i64 uG,.pointer p] w (uI (.tuple #[.string (bs (if uQ r.O r.N=1 then r.ad.ip.take 4 else r.ad.ip)),.int .i64 0]) w):=by
 have CK:=Y (fun w' (b:al w w')=>yf cs r w' (h.G b));have hl:cs.length=33:=gI;have L1:cs[1]?=some (.int .i64 r.O):=gH;have L2:cs[2]?=some (.int .i64 r.N):=gH;have hb:=Y (fun w=>vF r.O r.N w);have h16:r.ad.ip.length=16:=kI;have LI:Hid (∀j (hj:j<r.ad.ip.length),cs[5+j]?=some (.int .u8 (r.ad.ip[j].toNat:Int))):=Y bD;rw[hc]at CK;clear h hc;generalize uQ r.O r.N=k at*;generalize r.ad.ip=ip,r.O=O,r.N=N at*;rcases z with rfl|rfl
 ·
  rw[if_pos J];have h4:(ip.take 4).length=4:=by simp[h16]
  have B0:=F.new w 119 cs;have HB0:Below w.heap.size w (w.alloc (.cells cs.toArray 119)):=gF;go_enter func114,ntmps114;go_wp2_with(refine ur (.load 119 (.tmp 3)) J ?_;go_must(refine uu J _ _ J w.heap.size 0 J B0 33 I _ underlying119 J uU cs (wP I) ?_));go_wp2_with fail;refine(CK.out _ HB0).mono ?_;rintro _ w2 ⟨rfl,b2⟩;have B:=B0.G b2 B0.lt;have HB:=um HB0 HB0.size b2;clear B0 HB0 b2 CK;have c1:=B.M 1 L1;have c2:=B.M 2 L2;go_wp2_with fail;refine(hb.out _).mono ?_;rintro _ w3 ⟨rfl,rfl⟩;clear hb c1 c2 L1 L2;have CV:=KE (o:=5) B (ip.take 4) 16 (fun j hj=>by rw[LI.out j I];simp);rw[h4]at CV;generalize ip.take 4=q at*;clear LI h16;exact qA
 ·rw[if_neg az];have B0:=F.new w 119 cs;have HB0:Below w.heap.size w (w.alloc (.cells cs.toArray 119)):=gF;go_enter func114,ntmps114;go_wp2_with(refine ur (.load 119 (.tmp 3)) J ?_;go_must(refine uu J _ _ J w.heap.size 0 J B0 33 I _ underlying119 J uU cs (wP I) ?_));go_wp2_with fail;refine(CK.out _ HB0).mono ?_;rintro _ w2 ⟨rfl,b2⟩;have B:=B0.G b2 B0.lt;have HB:=um HB0 HB0.size b2;clear B0 HB0 b2 CK;have c1:=B.M 1 L1;have c2:=B.M 2 L2;go_wp2_with fail;refine(hb.out _).mono ?_;rintro _ w3 ⟨rfl,rfl⟩;clear hb c1 c2 L1 L2;have CV:=KE (o:=5) B ip 16 (fun j hj=>LI.out j hj);rw[h16]at CV;clear LI;exact qA
theorem P5(cs:List Value)(r:RR)(uG:Int)(p:Option Addr)(w:World)(h:xJ w cs r)(hc:uN r=0)(z:uQ r.O r.N=33):
  Calls prog 114 #[.agg cs.toArray,.int .i64 uG,.pointer p] w (uI (.tuple #[.string (bs (uA 2 r.pri++uA 2 r.we++uA 2 r.po++yS r.tg)),.int .i64 0]) w):=by
 have CK:=Y (fun w' (b:al w w')=>yf cs r w' (h.G b));have hl:cs.length=33:=gI;have L1:cs[1]?=some (.int .i64 r.O):=gH;have L2:cs[2]?=some (.int .i64 r.N):=gH;have hb:=Y (fun w=>vF r.O r.N w);obtain⟨At,ct,L22,hR⟩:∃At ct,cs[22]?=some (.slice At r.tg.length ct)/\xE w At ct r.tg:=by exact rA
 have L24:cs[24]?=some (.int .i64 r.pri):=kj;have L25:cs[25]?=some (.int .i64 r.we):=ki;have L26:cs[26]?=some (.int .i64 r.po):=kh;have hz:(yS r.tg).length<=255:=by exact sL
 rw[hc]at CK;rw[z]at hb;clear h hc z;have PT:=Y (fun w' (b:al w w')=>GX At ct r.tg 0 w' (hR.G b));generalize yS r.tg=abx at*;generalize uE r.tg=e at*;generalize r.tg.length=n,r.O=O,r.N=N at*;clear hR;have P1:=Y (fun w=>yJ r.pri w);have P2:=Y (fun w=>yJ r.we w);have P3:=Y (fun w=>yJ r.po w);have l1:=uy 2 r.pri;have l2:=uy 2 r.we;have l3:=uy 2 r.po;generalize uA 2 r.pri=s1 at*;generalize uA 2 r.we=s2 at*;generalize uA 2 r.po=s3 at*;generalize r.pri=pri,r.we=we,r.po=po at*;have B0:=F.new w 119 cs;have HB0:Below w.heap.size w (w.alloc (.cells cs.toArray 119)):=gF;go_enter func114,ntmps114;go_wp2_with(refine ur (.load 119 (.tmp 3)) J ?_;go_must(refine uu J _ _ J w.heap.size 0 J B0 33 I _ underlying119 J uU cs (wP I) ?_));go_wp2_with fail;refine(CK.out _ HB0).mono ?_;rintro _ w2 ⟨rfl,b2⟩;have B:=B0.G b2 B0.lt;have HB:=um HB0 HB0.size b2;clear B0 HB0 b2 CK;have c1:=B.M 1 L1;have c2:=B.M 2 L2;go_wp2_with fail;refine(hb.out _).mono ?_;rintro _ w3 ⟨rfl,rfl⟩;clear hb c1 c2 L1 L2;have c22:=B.M 22 L22;clear L22;go_wp2_with fail;refine(PT.out _ HB).mono ?_;rintro _ w3 ⟨rfl,hB3⟩;have B3:=B.G hB3 B.lt;have HB3:=um HB HB.size hB3;clear B HB hB3 PT;go_wp2_with fail;refine wY (by kernel_rfl) (by kernel_rfl) ?_
 (refine ux (v:=(.pointer (some ⟨w.heap.size,24,none⟩))) J (fun W hW=>by first|(go_simp;done)|(go_simp;omega)) ?_;simp only[E])
 refine vr 3 (.tmp 58) J ⟨w.heap.size,24,none⟩ J J (fun W hW=>uB underlying3 J ((B3.G hW B3.lt).M 24 L24)) ?_;simp only[E];refine vy 84 #[.int .i64 2,.int .i64 pri] J (fun W=>by go_simp) (fun W hW=>uI.y9 hW (P1.out W)) ?_;simp only[E]
 (refine ux (v:=(.pointer (some ⟨w.heap.size,25,none⟩))) J (fun W hW=>by first|(go_simp;done)|(go_simp;omega)) ?_;simp only[E])
 refine vr 3 (.tmp 61) J ⟨w.heap.size,25,none⟩ J J (fun W hW=>uB underlying3 J ((B3.G hW B3.lt).M 25 L25)) ?_;simp only[E];refine vy 84 #[.int .i64 2,.int .i64 we] J (fun W=>by go_simp) (fun W hW=>uI.y9 hW (P2.out W)) ?_;simp only[E]
 (refine ux (v:=(.string (bs (s1++s2)))) J (fun W hW=>by first|(go_simp;done)|(go_simp;omega)) ?_;simp only[E])
 (refine ux (v:=(.pointer (some ⟨w.heap.size,26,none⟩))) J (fun W hW=>by first|(go_simp;done)|(go_simp;omega)) ?_;simp only[E])
 refine vr 3 (.tmp 65) J ⟨w.heap.size,26,none⟩ J J (fun W hW=>uB underlying3 J ((B3.G hW B3.lt).M 26 L26)) ?_;simp only[E];refine vy 84 #[.int .i64 2,.int .i64 po] J (fun W=>by go_simp) (fun W hW=>uI.y9 hW (P3.out W)) ?_;simp only[E]
 (refine ux (v:=(.string (bs (s1++s2++s3)))) J (fun W hW=>by first|(go_simp;done)|(go_simp;omega)) ?_;simp only[E])
 (refine ux (v:=(.string (bs abx))) J (fun W hW=>by first|(go_simp;done)|(go_simp;omega)) ?_;simp only[E])
 (refine ux (v:=(.string (bs (s1++s2++s3++abx)))) J (fun W hW=>by first|(go_simp;done)|(go_simp;omega)) ?_;simp only[E])
 (refine ux (v:=(.string (bs (s1++s2++s3++abx)))) J (fun W hW=>by first|(go_simp;done)|(go_simp;omega)) ?_;simp only[E])
 (refine ux (v:=(.int .i64 0)) J (fun W hW=>by first|(go_simp;done)|(go_simp;omega)) ?_;simp only[E])
 exact rZ
theorem XQ{r:RR}(hc:uN r=0)(z:uQ r.O r.N=6):uE r.tg=0/\uE r.ml=0:=by
 have hE:=(FT hc).2;have hE6:yC r=(if uE r.tg≠0 then uE r.tg else if uE r.ml≠0 then uE r.ml else if r.Hh.all (yo 4294967295)then 0 else 4):=hU;rw[hE6]at hE;have ht:uE r.tg=0:=by exact tD
 refine⟨ht,?_⟩;exact sG
theorem P6(lo:Nat)(cs:List Value)(r:RR)(uG:Int)(p:Option Addr)(T:Option Co)(w0 w:World)(hh:xJ w0 cs r)(h0:w0.heap.size<=lo)(hb0:al w0 w)(uw:lo<=w.heap.size)(hT:DZ lo w p T)(hf:zm T 800000)(ha0:0<=uG)(ha1:uG<=1000000)(hc:uN r=0)(z:uQ r.O r.N=6):
  Calls prog 114 #[.agg cs.toArray,.int .i64 uG,.pointer p] w (SI lo p (vh T uG r.tg++vh (vL T uG r.tg) (uG+(vh T uG r.tg).length) r.ml++r.Hh.flatMap (uA 4)) 0 (vL (vL T uG r.tg) (uG+(vh T uG r.tg).length) r.ml) w):=by
 have h:=hh.G hb0;obtain⟨ht,hm⟩:=XQ hc z;have CK:=Y (fun w' (b:al w w')=>yf cs r w' (h.G b));have hl:cs.length=33:=gI;have L1:cs[1]?=some (.int .i64 r.O):=gH;have L2:cs[2]?=some (.int .i64 r.N):=gH;have hb:=Y (fun w=>vF r.O r.N w);rw[hc]at CK;rw[z]at hb;clear h hc z;obtain⟨An,cn,At,ct,Am,cm,hS,hr,hN,hTg,hMl,agn⟩:=hh;have L22:cs[22]?=some (.slice At r.tg.length ct):=oC;have L23:cs[23]?=some (.slice Am r.ml.length cm):=oB;have hn5:=hr.2;have LK:Hid (∀(i:Nat) (hi:i<r.Hh.length),cs[27+i]?=some (.int .i64 r.Hh[i])):=Y (fun i hi=>by rw[hS,V5 hr i I];simp[List.getD,hi]);clear hS hN agn hr;have s1l:=xk T uG r.tg;have s2l:=xk (vL T uG r.tg) (uG+(vh T uG r.tg).length) r.ml;have P1:=Y (fun w' (b:al w w')=>BD lo p T At ct r.tg uG w0 w' h0 (um hb0 hb0.size b) (Nat.le_trans uw b.size) (hT.G uw b) hTg (fun T' h=>Nat.le_trans (hf T' h) I));have P2:=Y (fun w' (b:Below lo w w') (ajx:lo<=w'.heap.size) (hT':DZ lo w' p (vL T uG r.tg))=>BD lo p (vL T uG r.tg) Am cm r.ml (uG+(vh T uG r.tg).length) w0 w' h0 (hb0.trans (b.mono h0)) ajx hT' hMl (fun T' h=>Nat.le_trans ((hf.put uG r.tg) T' h) I));rw[ht]at P1;rw[hm]at P2;clear hT hf hTg hMl ht hm hb0;generalize vL (vL T uG r.tg) (uG+(vh T uG r.tg).length) r.ml=T2 at*;generalize vh (vL T uG r.tg) (uG+(vh T uG r.tg).length) r.ml=s2 at*;generalize vh T uG r.tg=s1 at*;generalize vL T uG r.tg=T1 at*;generalize r.tg.length=ntg,r.ml.length=nml at*;generalize r.Hh=Hh,r.O=O,r.N=N at*;obtain⟨out,aj4⟩:∃out,out=s1++s2++Hh.flatMap (uA 4):=gG;rw[<-aj4];have HO:=Y aj4;clear aj4;obtain⟨n0,n1,n2,n3,n4,rfl⟩:∃n0 n1 n2 n3 n4,Hh=[n0,n1,n2,n3,n4]:=by
  match Hh,hn5 with
  |[a,b,c,d,e],_=>exact⟨a,b,c,d,e,J⟩
 clear hn5;have L27:cs[27]?=some (.int .i64 n0):=LK.out 0 ap;have L28:cs[28]?=some (.int .i64 n1):=LK.out 1 ap;have L29:cs[29]?=some (.int .i64 n2):=LK.out 2 ap;have L30:cs[30]?=some (.int .i64 n3):=LK.out 3 ap;have L31:cs[31]?=some (.int .i64 n4):=LK.out 4 ap;clear LK;have B0:=F.new w 119 cs;have HB0:Below w.heap.size w (w.alloc (.cells cs.toArray 119)):=gF;go_enter func114,ntmps114;go_wp2_with(refine ur (.load 119 (.tmp 3)) J ?_;go_must(refine uu J _ _ J w.heap.size 0 J B0 33 I _ underlying119 J uU cs (wP I) ?_));go_wp2_with fail;refine(CK.out _ HB0).mono ?_;rintro _ w2 ⟨rfl,b2⟩;have B:=B0.G b2 B0.lt;have HB:=um HB0 HB0.size b2;clear B0 HB0 b2 CK;have c1:=B.M 1 L1;have c2:=B.M 2 L2;go_wp2_with fail;refine(hb.out _).mono ?_;rintro _ w3 ⟨rfl,rfl⟩;clear hb c1 c2 L1 L2;have c22:=B.M 22 L22;go_wp2_with fail;refine(P1.out _ HB).mono ?_;rintro _ w2 ⟨rfl,hT2,hB2⟩;have B2:=hB2.vj B;have ty:vV lo w w2:=(vV.y9 HB uw).trans hB2;have ag4:lo<=w2.heap.size:=wI ty.1 uw;clear P1 c22 hB2 B HB L22;have c23:=B2.M 23 L23;go_wp2_with fail;refine(P2.out _ ty.1 ag4 hT2).mono ?_;rintro _ w3 ⟨rfl,hT3,hB3⟩;have B3:=hB3.vj B2;have HB3:vV lo w w3:=ty.trans hB3;have age:lo<=w3.heap.size:=wI HB3.1 uw;clear P2 c23 hB3 hT2 B2 ty ag4 L23;have l0:=uy 4 n0;have l1:=uy 4 n1;have l2:=uy 4 n2;have l3:=uy 4 n3;have l4:=uy 4 n4;have Q0:=Y (fun w=>zU n0 w);have Q1:=Y (fun w=>zU n1 w);have Q2:=Y (fun w=>zU n2 w);have Q3:=Y (fun w=>zU n3 w);have Q4:=Y (fun w=>zU n4 w);have HO:Hid (out=s1++s2++(uA 4 n0++(uA 4 n1++(uA 4 n2++(uA 4 n3++uA 4 n4))))):=Y bF;generalize uA 4 n0=q0 at*;generalize uA 4 n1=q1 at*;generalize uA 4 n2=q2 at*;generalize uA 4 n3=q3 at*;generalize uA 4 n4=q4 at*;go_wp2_with fail;refine wp_loop_rounds 6 ?_;rw[rounds_succ];have cn0:=B3.M 27 L27;go_wp2_with fail;refine(Q0.out _).mono ?_;rintro _ w4 ⟨rfl,b4⟩;replace HB3:=HB3.trans (vV.y9 b4 age);replace hT3:=hT3.G age b4;replace B3:=B3.G b4 B3.lt;replace age:=Nat.le_trans age b4.size;clear b4 cn0 Q0 L27;go_wp2_with fail;rw[rounds_succ];have cn1:=B3.M 28 L28;go_wp2_with fail;refine(Q1.out _).mono ?_;rintro _ w5 ⟨rfl,b4⟩;replace HB3:=HB3.trans (vV.y9 b4 age);replace hT3:=hT3.G age b4;replace B3:=B3.G b4 B3.lt;replace age:=Nat.le_trans age b4.size;clear b4 cn1 Q1 L28;go_wp2_with fail;rw[rounds_succ];have cn2:=B3.M 29 L29;go_wp2_with fail;refine(Q2.out _).mono ?_;rintro _ w6 ⟨rfl,b4⟩;replace HB3:=HB3.trans (vV.y9 b4 age);replace hT3:=hT3.G age b4;replace B3:=B3.G b4 B3.lt;replace age:=Nat.le_trans age b4.size;clear b4 cn2 Q2 L29;go_wp2_with fail;rw[rounds_succ];have cn3:=B3.M 30 L30;go_wp2_with fail;refine(Q3.out _).mono ?_;rintro _ w7 ⟨rfl,b4⟩;replace HB3:=HB3.trans (vV.y9 b4 age);replace hT3:=hT3.G age b4;replace B3:=B3.G b4 B3.lt;replace age:=Nat.le_trans age b4.size;clear b4 cn3 Q3 L30;go_wp2_with fail;rw[rounds_succ];have cn4:=B3.M 31 L31;go_wp2_with fail;refine(Q4.out _).mono ?_;rintro _ w8 ⟨rfl,b4⟩;replace HB3:=HB3.trans (vV.y9 b4 age);replace hT3:=hT3.G age b4;replace B3:=B3.G b4 B3.lt;replace age:=Nat.le_trans age b4.size;clear b4 cn4 Q4 L31;go_wp2_with fail;rw[rounds_succ];go_wp2_with fail;go_ret2;exact⟨Ln bF,hT3,HB3⟩
theorem P7(lo:Nat)(cs:List Value)(r:RR)(uG:Int)(p:Option Addr)(T:Option Co)(w0 w:World)(h:xJ w0 cs r)(h0:w0.heap.size<=lo)(hb0:al w0 w)(uw:lo<=w.heap.size)(hT:DZ lo w p T)(hf:zm T 800000)(ha0:0<=uG)(ha1:uG<=1000000):
  Calls prog 114 #[.agg cs.toArray,.int .i64 uG,.pointer p] w (SI lo p (GY T uG r) (uN r) (GZ T uG r) w):=by
 have hw:=h.G hb0;by_cases hc:uN r=0
 ·
  unfold GY GZ;rw[if_pos hc,if_pos hc,hc];have hE:=(FT hc).2;rcases zQ r.O r.N with z|z|z|z|z|z
  ·refine(Hb cs r uG p w hw hc (.inl z)).mono ?_;rintro _ w' ⟨rfl,hB⟩;have e1:yT T uG r=(if uQ r.O r.N=1 then r.ad.ip.take 4 else r.ad.ip):=gY;exact qz
  ·refine(Hb cs r uG p w hw hc (.inr z)).mono ?_;rintro _ w' ⟨rfl,hB⟩;have e1:yT T uG r=(if uQ r.O r.N=1 then r.ad.ip.take 4 else r.ad.ip):=gY;exact qz
  ·have e1:yT T uG r=vh T uG r.tg:=kQ;have e2:El T uG r=vL T uG r.tg:=kU;have e3:uE r.tg=0:=jP;rw[e1,e2];have:=Nw lo cs r uG p T w0 w h h0 hb0 uw hT (fun T' h=>Nat.le_trans (hf T' h) I) hc z;rwa[e3]at this
  ·refine(P5 cs r uG p w hw hc z).mono ?_;rintro _ w' ⟨rfl,hB⟩;have e1:yT T uG r=uA 2 r.pri++uA 2 r.we++uA 2 r.po++yS r.tg:=gY;exact qz
  ·have e1:yT T uG r=vh T uG r.tg++vh (vL T uG r.tg) (uG+(vh T uG r.tg).length) r.ml++r.Hh.flatMap (uA 4):=gY;have e2:El T uG r=vL (vL T uG r.tg) (uG+(vh T uG r.tg).length) r.ml:=hI;rw[e1,e2];exact P6 lo cs r uG p T w0 w h h0 hb0 uw hT hf ha0 ha1 hc z
  ·refine(P4 cs r uG p w hw hc z).mono ?_;rintro _ w' ⟨rfl,hB⟩;have e1:yT T uG r=r.raw:=gY;exact qz
 ·unfold GY GZ;rw[if_neg hc,if_neg hc];refine(PZ cs r uG p w hw hc).mono ?_;rintro _ w' ⟨rfl,hB⟩;exact⟨J,hT.G uw hB,vV.y9 hB uw⟩
end Go.Proofs.YthnbcmlnpdabhaaGreat
