/-
  The reference's layer 13:Check.
-/
import Derived.Test.YthnbcmlnpdabhaaGreatRd10z
namespace Go.Proofs.YthnbcmlnpdabhaaGreat
open _root_.Go.Proofs.Tryz
set_option maxHeartbeats 8000000
open Go.RowKit
set_option maxRecDepth 100000
set_option linter.unusedVariables false
set_option linter.unusedSimpArgs false
variable {An At Am:Option Addr} {cn ct cm lo:Nat} {w w':World}
def EF(r:RR):RR:=
 if uo r.E r.N=1\/uo r.E r.N=28 then{uR r with ad:=r.ad}
 else if uo r.E r.N=5\/uo r.E r.N=12 then{uR r with tg:=r.tg}
 else if uo r.E r.N=33 then{uR r with pri:=r.pri,we:=r.we,po:=r.po,tg:=r.tg}
 else if uo r.E r.N=6 then{uR r with tg:=r.tg,ml:=r.ml,h1:=r.h1}
 else{uR r with raw:=r.raw}
theorem Zl(r:RR):decide (EF r=r)=zW (xE r):=by
 have key:∀x:RR,decide (x=r)=zW (xE r)↔(x=r↔zW (xE r)=true):=fun x=>by rw[Bool.eq_iff_iff,decide_eq_true_eq]
 rw[key];clear key;rcases zr r.E r.N with h|h|(h|h)|h|h|h;all_goals
  unfold EF xE;rw[h];unfold zW uR RR.zero;obtain⟨a0,a1,a2,a3,a4,a5,a6,a7,a8,a9,a10,a11⟩:=r;simp only[RR.mk.injEq,Bool.and_eq_true,decide_eq_true_eq,true_and,and_true];refine⟨fun h=>?_,fun h=>?_⟩;all_goals first|grind|simp_all
def CQ(r:RR):Int:=if yd r≠0 then yd r else if decide (EF r=r)then 0 else 5
theorem xH(r:RR):(uR r).wf:=⟨J,J⟩
theorem JP(cs:List Value)(r:RR)(w:World)(h:xd w cs r)(h0:tY r.name≠0):Calls prog 161 #[.agg cs.toArray] w (uf (.int .i64 (tY r.name)) w):=by
 obtain⟨An,cn,At,ct,Am,cm,hcs,hr,hN,hT,hM,afB⟩:=h;have hl:cs.length=33:=iQ;have L0:∀hi:0<cs.length,cs[0]'hi= .slice An r.name.length cn:=xp bI;have CN:=Y (fun w' (b:al w w')=>uS An cn r.name w' (hN.G b).1 bu);generalize tY r.name=e at*;have h0':(e !=0)=true:=kj;clear hcs h0;have hB0:Below w.heap.size w (w.alloc (.cells cs.toArray 119)):=gj;go_enter func161,ntmps161;go_wp2_with fail;refine(CN.out _ hB0).mono ?_;rintro _ w1 ⟨rfl,rfl⟩;exact qX
theorem IH(cs:List Value)(r:RR)(w:World)(h:xd w cs r)(h0:tY r.name=0)(F:¬(xN 65535 r.E=true/\xN 65535 r.N=true/\xN 4294967295 r.ak=true)):Calls prog 161 #[.agg cs.toArray] w (uf (.int .i64 4) w):=by
 obtain⟨An,cn,At,ct,Am,cm,hcs,hr,hN,hT,hM,afB⟩:=h;have hl:cs.length=33:=iQ;have L0:∀hi:0<cs.length,cs[0]'hi= .slice An r.name.length cn:=xp bI;have L1:∀hi:1<cs.length,cs[1]'hi= .int .i64 r.E:=xp bI;have L2:∀hi:2<cs.length,cs[2]'hi= .int .i64 r.N:=xp bI;have L3:∀hi:3<cs.length,cs[3]'hi= .int .i64 r.ak:=xp bI;have CN:=Y (fun w' (b:al w w')=>uS An cn r.name w' (hN.G b).1 bu);rw[h0]at CN;have O1:=Y (fun w=>uI r.E 65535 w);have O2:=Y (fun w=>uI r.N 65535 w);have O3:=Y (fun w=>uI r.ak 4294967295 w);generalize xN 65535 r.E=b1 at*;generalize xN 65535 r.N=b2 at*;generalize xN 4294967295 r.ak=b3 at*;have HB:=Y F;clear hcs h0 F;have hB0:Below w.heap.size w (w.alloc (.cells cs.toArray 119)):=gj;go_enter func161,ntmps161;go_wp2_with fail;refine(CN.out _ hB0).mono ?_;rintro _ w1 ⟨rfl,rfl⟩;go_wp2_with fail;refine(O1.out _).mono ?_;rintro _ w1 ⟨rfl,rfl⟩;cases b1 with
 |false=>exact qX
 |true=>
 go_wp2_with fail;refine(O2.out _).mono ?_;rintro _ w1 ⟨rfl,rfl⟩;cases b2 with
 |false=>exact qX
 |true=>
 go_wp2_with fail;refine(O3.out _).mono ?_;rintro _ w1 ⟨rfl,rfl⟩;cases b3 with
 |false=>exact qX
 |true=>exact absurd ap HB.out
structure Good (cs:List Value) (r:RR) (w:World) (An:Option Addr) (cn:Nat) (At:Option Addr) (ct:Nat) (Am:Option Addr) (cm:Nat):Prop where
 hcs:cs=vy (.slice An r.name.length cn) (.slice At r.tg.length ct) (.slice Am r.ml.length cm) r
 hr:r.wf
 hN:xj w An cn r.name
 hT:xj w At ct r.tg
 hM:xj w Am cm r.ml
 afB:r.raw.length<=140737488355328
 h0:tY r.name=0
 U:xN 65535 r.E=true
 X:xN 65535 r.N=true
 h3:xN 4294967295 r.ak=true
theorem ac7(cs:List Value)(r:RR)(w:World)(h:Good cs r w An cn At ct Am cm)(O:uo r.E r.N=5\/uo r.E r.N=12):Calls prog 161 #[.agg cs.toArray] w (uf (.int .i64 (CQ r)) w):=by
 have hw:EF r={uR r with tg:=r.tg}:=by unfold EF;rcases O with O|O<;>rw[O]<;>rfl
 have hE:yd r=tY r.tg:=by unfold yd;rcases O with O|O<;>rw[O]<;>rfl
 rcases O with O|O;all_goals
  have hl:cs.length=33:=ir;have L0:∀hi:0<cs.length,cs[0]'hi= .slice An r.name.length cn:=iC;have L1:∀hi:1<cs.length,cs[1]'hi= .int .i64 r.E:=iC;have L2:∀hi:2<cs.length,cs[2]'hi= .int .i64 r.N:=iC;have L3:∀hi:3<cs.length,cs[3]'hi= .int .i64 r.ak:=iC;have M1:cs[1]?=some (.int .i64 r.E):=cU;have M2:cs[2]?=some (.int .i64 r.N):=cU;have CN:=Y (fun w' (b:al w w')=>uS An cn r.name w' (h.hN.G b).1 cV);rw[h.h0]at CN;have O1:=Y (fun w=>uI r.E 65535 w);have O2:=Y (fun w=>uI r.N 65535 w);have O3:=Y (fun w=>uI r.ak 4294967295 w);rw[h.U]at O1;rw[h.X]at O2;rw[h.h3]at O3;have BR:=Y (fun w=>Dg An r.name.length cn (.slice At r.tg.length ct) (.slice Am r.ml.length cm) r h.hr w);rw[<-h.hcs]at BR;have hb:=Y (fun w=>uU r.E r.N w);rw[O]at hb;have ZL:=uP (vn:=.slice An r.name.length cn) (vt:=tS) (vm:=tS) (xH r);have ZC:=Y (wj (vn:=.slice An r.name.length cn) (vt:=tS) (vm:=tS) (r:=uR r) J J J);have RW:xd w cs r:=gI;have HE:Hid (CQ r=_):=Y cW;generalize CQ r=res at*;rw[hE,hw]at HE;have M22:cs[22]?=some (.slice At r.tg.length ct):=km;have S5:=Bo (vn:=.slice An r.name.length cn) (vt:=tS) (vm:=tS) (xH r) (.slice At r.tg.length ct);have l5:=uP (vn:=.slice An r.name.length cn) (vt:=.slice At r.tg.length ct) (vm:=tS) (xH r);have R5:xd w (vy (.slice An r.name.length cn) (.slice At r.tg.length ct) tS (uR r)) {uR r with tg:=r.tg}:=je;have SM:=Y (fun w' (b:al w w')=>zf _ cs {uR r with tg:=r.tg} r w' (R5.G b) (RW.G b));have CT:=Y (fun w' (b:al w w')=>uS At ct r.tg w' (h.hT.G b).1 cX);clear h R5 RW O hE hw;generalize decide ({uR r with tg:=r.tg}=r)=sb at*;generalize vy (.slice An r.name.length cn) (.slice At r.tg.length ct) tS (uR r)=L5 at*;generalize tY r.tg=e at*;generalize vy (.slice An r.name.length cn) tS tS (uR r)=L4 at*;generalize r.name.length=nn,r.tg.length=nt at*;generalize r.ml.length=nm,r.E=E at*;generalize r.N=N,r.ak=ak at*;have hB0:Below w.heap.size w (w.alloc (.cells cs.toArray 119)):=gj;have B0:=Z.new w 119 cs;go_enter func161,ntmps161;go_wp2_with fail;refine(CN.out _ hB0).mono ?_;rintro _ w1 ⟨rfl,rfl⟩;go_wp2_with fail;refine(O1.out _).mono ?_;rintro _ w1 ⟨rfl,rfl⟩;go_wp2_with fail;refine(O2.out _).mono ?_;rintro _ w1 ⟨rfl,rfl⟩;go_wp2_with fail;refine(O3.out _).mono ?_;rintro _ w1 ⟨rfl,rfl⟩;clear O1 O2 O3 CN;go_wp2_with(refine tO (.load 119 (.tmp 1)) J ?_;go_must(refine tP J _ _ J w.heap.size 0 J B0 33 I _ underlying119 J uu cs (wg I) ?_));refine(BR.out _).mono ?_;rintro _ w2 ⟨rfl,b2⟩;have B1':=(B0.G b2 B0.lt).alloc (.cells vG.toArray 119);have hk:=tL hB0 hB0.size b2;have Hh:w.heap.size<w2.heap.size:=iA;clear B0 hB0 b2 BR L0 L1 L2 L3;go_wp2_with(refine tO (.store 119 (.tmp 4) (.tmp 27)) J (ab J w2.heap.size 0 L4 (Z.vP _ _ vG _ ap) bi cY ZC.out ?_));intro w3 hb3 hg3 hs3;rw[List.drop_of_length_le bi,List.append_nil]at hb3;have B4:=hb3;have B1:Z w3 w.heap.size 119 cs:=kh;have HB:al w w3:=gT;clear hb3 hg3 hk B1' hs3;have u1:=B1.K 1 M1;have u2:=B1.K 2 M2;go_wp2_with fail;refine(hb.out _).mono ?_;rintro _ w4 ⟨rfl,rfl⟩;clear hb u1 u2 M1 M2;have u22:=B1.K 22 M22;go_wp2_with(refine tO (.store 26 (.tmp 82) (.tmp 81)) J (af J w2.heap.size 22 (.slice At nt ct) B4 I vh ?_));clear u22;intro w4 hb4 hg4 hs4;replace B4:=hb4;replace B1:=B1.grown hg4 az;replace HB:=tN HB hg4 HB.size I;clear hb4 hg4 hs4
  (try rw[S5]at B4)
  have u22:=B1.K 22 M22;go_wp2_with fail;refine(CT.out _ HB).mono ?_;rintro _ w5 ⟨rfl,rfl⟩;clear CT u22 M22 S5;by_cases he0:e=0
  ·
   subst he0;have hr0:=Y (HE.out.trans (if_neg ap));clear HE;go_wp2_with(first
    |(refine tO (.load 119 (.tmp 4)) rfl ?_;refine uC (by kernel_rfl) 119 (.tmp 4) rfl w2.heap.size 0 rfl B4 33 I _ underlying119 rfl uu L5 (wg I) ?_)
    |(refine tO (.load 119 (.tmp 1)) rfl ?_;refine uC (by kernel_rfl) 119 (.tmp 1) rfl w.heap.size 0 rfl B1 33 I _ underlying119 rfl uu cs (wg I) ?_))
   refine(SM.out _ HB).mono ?_;rintro _ w9 ⟨rfl,b9⟩;have HB9:=tL HB HB.size b9;cases sb with
   |false=>have hr1:res=5:=gZ;subst hr1;clear hr0;exact oV
   |true=>have hr1:res=0:=gZ;subst hr1;clear hr0;exact oV
  ·have hr0:=HE.out.trans (if_pos he0);subst hr0;have he1:(res==0)=false:=iD;clear HE he0;exact oH
theorem ac8(cs:List Value)(r:RR)(w:World)(h:Good cs r w An cn At ct Am cm)(O:uo r.E r.N=1):Calls prog 161 #[.agg cs.toArray] w (uf (.int .i64 (CQ r)) w):=by
 have hw:EF r={uR r with ad:=r.ad}:=iP;have hE:yd r=(if r.ad.check≠0\/r.ad.fam≠4\/r.ad.cl≠0 then 10 else 0):=gS;have hl:cs.length=33:=ir;have L0:∀hi:0<cs.length,cs[0]'hi= .slice An r.name.length cn:=iC;have L1:∀hi:1<cs.length,cs[1]'hi= .int .i64 r.E:=iC;have L2:∀hi:2<cs.length,cs[2]'hi= .int .i64 r.N:=iC;have L3:∀hi:3<cs.length,cs[3]'hi= .int .i64 r.ak:=iC;have M1:cs[1]?=some (.int .i64 r.E):=cU;have M2:cs[2]?=some (.int .i64 r.N):=cU;have CN:=Y (fun w' (b:al w w')=>uS An cn r.name w' (h.hN.G b).1 cV);rw[h.h0]at CN;have O1:=Y (fun w=>uI r.E 65535 w);have O2:=Y (fun w=>uI r.N 65535 w);have O3:=Y (fun w=>uI r.ak 4294967295 w);rw[h.U]at O1;rw[h.X]at O2;rw[h.h3]at O3;have BR:=Y (fun w=>Dg An r.name.length cn (.slice At r.tg.length ct) (.slice Am r.ml.length cm) r h.hr w);rw[<-h.hcs]at BR;have hb:=Y (fun w=>uU r.E r.N w);rw[O]at hb;have ZL:=uP (vn:=.slice An r.name.length cn) (vt:=tS) (vm:=tS) (xH r);have ZC:=Y (wj (vn:=.slice An r.name.length cn) (vt:=tS) (vm:=tS) (r:=uR r) J J J);have RW:xd w cs r:=gI;have HE:Hid (CQ r=_):=Y cW;generalize CQ r=res at*;rw[hE,hw]at HE;have h16:=h.hr.1;have MA:Hid ((cs.drop 4).take 18=r.ad.cells):=Y c8;have M4:cs[4]?=some (.int .i64 r.ad.fam):=by exact rE
 have M21:cs[21]?=some (.int .i64 r.ad.cl):=by exact ri
 have S5:=Fb (vn:=.slice An r.name.length cn) (vt:=tS) (vm:=tS) (xH r) r.ad;have l5:=uP (vn:=.slice An r.name.length cn) (vt:=tS) (vm:=tS) (r:={uR r with ad:=r.ad}) ⟨h16,J⟩;have R5:xd w (vy (.slice An r.name.length cn) tS tS {uR r with ad:=r.ad}) {uR r with ad:=r.ad}:=iZ;have SM:=Y (fun w' (b:al w w')=>zf _ cs {uR r with ad:=r.ad} r w' (R5.G b) (RW.G b));have CA:=Y (fun w=>zG r.ad h16 w);have AL:=r.ad.ur h16;have A1:=Y r.ad.xg;clear h R5 RW O hE hw;generalize decide ({uR r with ad:=r.ad}=r)=sb at*;generalize vy (.slice An r.name.length cn) tS tS {uR r with ad:=r.ad}=L5 at*;generalize r.ad.check=ck,r.ad.fam=fm at*;generalize r.ad.cl=zn,r.ad.cells=LA at*;generalize vy (.slice An r.name.length cn) tS tS (uR r)=L4 at*;generalize r.name.length=nn,r.tg.length=nt at*;generalize r.ml.length=nm,r.E=E at*;generalize r.N=N,r.ak=ak at*;obtain⟨e,he⟩:∃e:Int,e=if ck≠0\/fm≠4\/zn≠0 then 10 else 0:=gp
 rw[<-he]at HE;have HEE:=Y he;clear he;have hB0:Below w.heap.size w (w.alloc (.cells cs.toArray 119)):=gj;have B0:=Z.new w 119 cs;go_enter func161,ntmps161;go_wp2_with fail;refine(CN.out _ hB0).mono ?_;rintro _ w1 ⟨rfl,rfl⟩;go_wp2_with fail;refine(O1.out _).mono ?_;rintro _ w1 ⟨rfl,rfl⟩;go_wp2_with fail;refine(O2.out _).mono ?_;rintro _ w1 ⟨rfl,rfl⟩;go_wp2_with fail;refine(O3.out _).mono ?_;rintro _ w1 ⟨rfl,rfl⟩;clear O1 O2 O3 CN;go_wp2_with(refine tO (.load 119 (.tmp 1)) J ?_;go_must(refine tP J _ _ J w.heap.size 0 J B0 33 I _ underlying119 J uu cs (wg I) ?_));refine(BR.out _).mono ?_;rintro _ w2 ⟨rfl,b2⟩;have B1':=(B0.G b2 B0.lt).alloc (.cells vG.toArray 119);have hk:=tL hB0 hB0.size b2;have Hh:w.heap.size<w2.heap.size:=iA;clear B0 hB0 b2 BR L0 L1 L2 L3;go_wp2_with(refine tO (.store 119 (.tmp 4) (.tmp 27)) J (ab J w2.heap.size 0 L4 (Z.vP _ _ vG _ ap) bi cY ZC.out ?_));intro w3 hb3 hg3 hs3;rw[List.drop_of_length_le bi,List.append_nil]at hb3;have B4:=hb3;have B1:Z w3 w.heap.size 119 cs:=kh;have HB:al w w3:=gT;clear hb3 hg3 hk B1' hs3;have u1:=B1.K 1 M1;have u2:=B1.K 2 M2;go_wp2_with fail;refine(hb.out _).mono ?_;rintro _ w4 ⟨rfl,rfl⟩;clear hb u1 u2 M1 M2;go_wp2_with(first
  |(refine tO (.load 24 (.tmp 44)) rfl ?_;refine tP rfl _ _ rfl w.heap.size 4 rfl B1 18 I _ underlying24 rfl vR LA MA.out ?_)
  |(refine tO (.store 24 (.tmp 46) (.tmp 45)) rfl ?_;refine DD rfl _ _ _ rfl w2.heap.size 4 rfl LA rfl B4 I dc A1.out ?_))
 intro w4 hb4 hg4 hs4;replace B4:=hb4;replace B1:=B1.grown hg4 az;replace HB:=tN HB hg4 HB.size I;clear hb4 hg4 hs4
 (try rw[AL,S5]at B4)
 go_wp2_with(refine tO (.load 24 (.tmp 47)) J ?_;go_must(refine tP J _ _ J w.heap.size 4 J B1 18 I _ underlying24 J vR LA MA.out ?_));refine(CA.out _).mono ?_;rintro _ w6 ⟨rfl,b6⟩;replace B1:=B1.G b6 B1.lt;replace B4:=B4.G b6 B4.lt;replace HB:=tL HB HB.size b6;have u4:=B1.K 4 M4;have u21:=B1.K 21 M21;clear CA b6 M4 M21 MA S5 A1;by_cases U:ck=0
 ·
  have e1:(ck !=0)=false:=il;by_cases X:fm=4
  ·
   have e2:(fm !=4)=false:=fW;by_cases h3:zn=0
   ·
    have e3:(zn !=0)=false:=iT;have hr:=HEE.out;rw[if_neg bh]at hr;subst hr;clear HEE U X h3;have hr0:=Y (HE.out.trans (if_neg ap));clear HE;go_wp2_with(first
     |(refine tO (.load 119 (.tmp 4)) rfl ?_;refine uC (by kernel_rfl) 119 (.tmp 4) rfl w2.heap.size 0 rfl B4 33 I _ underlying119 rfl uu L5 (wg I) ?_)
     |(refine tO (.load 119 (.tmp 1)) rfl ?_;refine uC (by kernel_rfl) 119 (.tmp 1) rfl w.heap.size 0 rfl B1 33 I _ underlying119 rfl uu cs (wg I) ?_))
    refine(SM.out _ HB).mono ?_;rintro _ w9 ⟨rfl,b9⟩;have HB9:=tL HB HB.size b9;cases sb with
    |false=>have hr1:res=5:=gZ;subst hr1;clear hr0;exact oV
    |true=>have hr1:res=0:=gZ;subst hr1;clear hr0;exact oV
   ·have e3:(zn !=0)=true:=iT;have hr:=HEE.out;rw[if_pos (.inr (.inr h3))]at hr;subst hr;clear HEE U X h3;have hr0:res=_:=hI;subst hr0;clear HE;exact oH
  ·have e2:(fm !=4)=true:=fW;have hr:=HEE.out;rw[if_pos (.inr (.inl X))]at hr;subst hr;clear HEE U X;have hr0:res=_:=hI;subst hr0;clear HE;exact oH
 ·have e1:(ck !=0)=true:=il;have hr:=HEE.out;rw[if_pos (.inl U)]at hr;subst hr;clear HEE U;have hr0:res=_:=hI;subst hr0;clear HE;exact oH
theorem abh(cs:List Value)(r:RR)(w:World)(h:Good cs r w An cn At ct Am cm)(O:uo r.E r.N=28):Calls prog 161 #[.agg cs.toArray] w (uf (.int .i64 (CQ r)) w):=by
 have hw:EF r={uR r with ad:=r.ad}:=iP;have hE:yd r=(if r.ad.check≠0\/r.ad.fam≠6\/r.ad.cl≠0 then 10 else 0):=gS;have hl:cs.length=33:=ir;have L0:∀hi:0<cs.length,cs[0]'hi= .slice An r.name.length cn:=iC;have L1:∀hi:1<cs.length,cs[1]'hi= .int .i64 r.E:=iC;have L2:∀hi:2<cs.length,cs[2]'hi= .int .i64 r.N:=iC;have L3:∀hi:3<cs.length,cs[3]'hi= .int .i64 r.ak:=iC;have M1:cs[1]?=some (.int .i64 r.E):=cU;have M2:cs[2]?=some (.int .i64 r.N):=cU;have CN:=Y (fun w' (b:al w w')=>uS An cn r.name w' (h.hN.G b).1 cV);rw[h.h0]at CN;have O1:=Y (fun w=>uI r.E 65535 w);have O2:=Y (fun w=>uI r.N 65535 w);have O3:=Y (fun w=>uI r.ak 4294967295 w);rw[h.U]at O1;rw[h.X]at O2;rw[h.h3]at O3;have BR:=Y (fun w=>Dg An r.name.length cn (.slice At r.tg.length ct) (.slice Am r.ml.length cm) r h.hr w);rw[<-h.hcs]at BR;have hb:=Y (fun w=>uU r.E r.N w);rw[O]at hb;have ZL:=uP (vn:=.slice An r.name.length cn) (vt:=tS) (vm:=tS) (xH r);have ZC:=Y (wj (vn:=.slice An r.name.length cn) (vt:=tS) (vm:=tS) (r:=uR r) J J J);have RW:xd w cs r:=gI;have HE:Hid (CQ r=_):=Y cW;generalize CQ r=res at*;rw[hE,hw]at HE;have h16:=h.hr.1;have MA:Hid ((cs.drop 4).take 18=r.ad.cells):=Y c8;have M4:cs[4]?=some (.int .i64 r.ad.fam):=by exact rE
 have M21:cs[21]?=some (.int .i64 r.ad.cl):=by exact ri
 have S5:=Fb (vn:=.slice An r.name.length cn) (vt:=tS) (vm:=tS) (xH r) r.ad;have l5:=uP (vn:=.slice An r.name.length cn) (vt:=tS) (vm:=tS) (r:={uR r with ad:=r.ad}) ⟨h16,J⟩;have R5:xd w (vy (.slice An r.name.length cn) tS tS {uR r with ad:=r.ad}) {uR r with ad:=r.ad}:=iZ;have SM:=Y (fun w' (b:al w w')=>zf _ cs {uR r with ad:=r.ad} r w' (R5.G b) (RW.G b));have CA:=Y (fun w=>zG r.ad h16 w);have AL:=r.ad.ur h16;have A1:=Y r.ad.xg;clear h R5 RW O hE hw;generalize decide ({uR r with ad:=r.ad}=r)=sb at*;generalize vy (.slice An r.name.length cn) tS tS {uR r with ad:=r.ad}=L5 at*;generalize r.ad.check=ck,r.ad.fam=fm at*;generalize r.ad.cl=zn,r.ad.cells=LA at*;generalize vy (.slice An r.name.length cn) tS tS (uR r)=L4 at*;generalize r.name.length=nn,r.tg.length=nt at*;generalize r.ml.length=nm,r.E=E at*;generalize r.N=N,r.ak=ak at*;obtain⟨e,he⟩:∃e:Int,e=if ck≠0\/fm≠6\/zn≠0 then 10 else 0:=gp
 rw[<-he]at HE;have HEE:=Y he;clear he;have hB0:Below w.heap.size w (w.alloc (.cells cs.toArray 119)):=gj;have B0:=Z.new w 119 cs;go_enter func161,ntmps161;go_wp2_with fail;refine(CN.out _ hB0).mono ?_;rintro _ w1 ⟨rfl,rfl⟩;go_wp2_with fail;refine(O1.out _).mono ?_;rintro _ w1 ⟨rfl,rfl⟩;go_wp2_with fail;refine(O2.out _).mono ?_;rintro _ w1 ⟨rfl,rfl⟩;go_wp2_with fail;refine(O3.out _).mono ?_;rintro _ w1 ⟨rfl,rfl⟩;clear O1 O2 O3 CN;go_wp2_with(refine tO (.load 119 (.tmp 1)) J ?_;go_must(refine tP J _ _ J w.heap.size 0 J B0 33 I _ underlying119 J uu cs (wg I) ?_));refine(BR.out _).mono ?_;rintro _ w2 ⟨rfl,b2⟩;have B1':=(B0.G b2 B0.lt).alloc (.cells vG.toArray 119);have hk:=tL hB0 hB0.size b2;have Hh:w.heap.size<w2.heap.size:=iA;clear B0 hB0 b2 BR L0 L1 L2 L3;go_wp2_with(refine tO (.store 119 (.tmp 4) (.tmp 27)) J (ab J w2.heap.size 0 L4 (Z.vP _ _ vG _ ap) bi cY ZC.out ?_));intro w3 hb3 hg3 hs3;rw[List.drop_of_length_le bi,List.append_nil]at hb3;have B4:=hb3;have B1:Z w3 w.heap.size 119 cs:=kh;have HB:al w w3:=gT;clear hb3 hg3 hk B1' hs3;have u1:=B1.K 1 M1;have u2:=B1.K 2 M2;go_wp2_with fail;refine(hb.out _).mono ?_;rintro _ w4 ⟨rfl,rfl⟩;clear hb u1 u2 M1 M2;go_wp2_with(first
  |(refine tO (.load 24 (.tmp 44)) rfl ?_;refine tP rfl _ _ rfl w.heap.size 4 rfl B1 18 I _ underlying24 rfl vR LA MA.out ?_)
  |(refine tO (.store 24 (.tmp 46) (.tmp 45)) rfl ?_;refine DD rfl _ _ _ rfl w2.heap.size 4 rfl LA rfl B4 I dc A1.out ?_))
 intro w4 hb4 hg4 hs4;replace B4:=hb4;replace B1:=B1.grown hg4 az;replace HB:=tN HB hg4 HB.size I;clear hb4 hg4 hs4
 (try rw[AL,S5]at B4)
 go_wp2_with(refine tO (.load 24 (.tmp 47)) J ?_;go_must(refine tP J _ _ J w.heap.size 4 J B1 18 I _ underlying24 J vR LA MA.out ?_));refine(CA.out _).mono ?_;rintro _ w6 ⟨rfl,b6⟩;replace B1:=B1.G b6 B1.lt;replace B4:=B4.G b6 B4.lt;replace HB:=tL HB HB.size b6;have u4:=B1.K 4 M4;have u21:=B1.K 21 M21;clear CA b6 M4 M21 MA S5 A1;by_cases U:ck=0
 ·
  have e1:(ck !=0)=false:=il;by_cases X:fm=6
  ·
   have e2:(fm !=6)=false:=fW;by_cases h3:zn=0
   ·
    have e3:(zn !=0)=false:=iT;have hr:=HEE.out;rw[if_neg bh]at hr;subst hr;clear HEE U X h3;have hr0:=Y (HE.out.trans (if_neg ap));clear HE;go_wp2_with(first
     |(refine tO (.load 119 (.tmp 4)) rfl ?_;refine uC (by kernel_rfl) 119 (.tmp 4) rfl w2.heap.size 0 rfl B4 33 I _ underlying119 rfl uu L5 (wg I) ?_)
     |(refine tO (.load 119 (.tmp 1)) rfl ?_;refine uC (by kernel_rfl) 119 (.tmp 1) rfl w.heap.size 0 rfl B1 33 I _ underlying119 rfl uu cs (wg I) ?_))
    refine(SM.out _ HB).mono ?_;rintro _ w9 ⟨rfl,b9⟩;have HB9:=tL HB HB.size b9;cases sb with
    |false=>have hr1:res=5:=gZ;subst hr1;clear hr0;exact oV
    |true=>have hr1:res=0:=gZ;subst hr1;clear hr0;exact oV
   ·have e3:(zn !=0)=true:=iT;have hr:=HEE.out;rw[if_pos (.inr (.inr h3))]at hr;subst hr;clear HEE U X h3;have hr0:res=_:=hI;subst hr0;clear HE;exact oH
  ·have e2:(fm !=6)=true:=fW;have hr:=HEE.out;rw[if_pos (.inr (.inl X))]at hr;subst hr;clear HEE U X;have hr0:res=_:=hI;subst hr0;clear HE;exact oH
 ·have e1:(ck !=0)=true:=il;have hr:=HEE.out;rw[if_pos (.inl U)]at hr;subst hr;clear HEE U;have hr0:res=_:=hI;subst hr0;clear HE;exact oH
theorem ac9(cs:List Value)(r:RR)(w:World)(h:Good cs r w An cn At ct Am cm)(O:uo r.E r.N=0):Calls prog 161 #[.agg cs.toArray] w (uf (.int .i64 (CQ r)) w):=by
 have hw:EF r={uR r with raw:=r.raw}:=iP;have hE:yd r=(if 65535<r.raw.length then 3 else 0):=gS;have hl:cs.length=33:=ir;have L0:∀hi:0<cs.length,cs[0]'hi= .slice An r.name.length cn:=iC;have L1:∀hi:1<cs.length,cs[1]'hi= .int .i64 r.E:=iC;have L2:∀hi:2<cs.length,cs[2]'hi= .int .i64 r.N:=iC;have L3:∀hi:3<cs.length,cs[3]'hi= .int .i64 r.ak:=iC;have M1:cs[1]?=some (.int .i64 r.E):=cU;have M2:cs[2]?=some (.int .i64 r.N):=cU;have CN:=Y (fun w' (b:al w w')=>uS An cn r.name w' (h.hN.G b).1 cV);rw[h.h0]at CN;have O1:=Y (fun w=>uI r.E 65535 w);have O2:=Y (fun w=>uI r.N 65535 w);have O3:=Y (fun w=>uI r.ak 4294967295 w);rw[h.U]at O1;rw[h.X]at O2;rw[h.h3]at O3;have BR:=Y (fun w=>Dg An r.name.length cn (.slice At r.tg.length ct) (.slice Am r.ml.length cm) r h.hr w);rw[<-h.hcs]at BR;have hb:=Y (fun w=>uU r.E r.N w);rw[O]at hb;have ZL:=uP (vn:=.slice An r.name.length cn) (vt:=tS) (vm:=tS) (xH r);have ZC:=Y (wj (vn:=.slice An r.name.length cn) (vt:=tS) (vm:=tS) (r:=uR r) J J J);have RW:xd w cs r:=gI;have HE:Hid (CQ r=_):=Y cW;generalize CQ r=res at*;rw[hE,hw]at HE;have afB:=h.afB;have M32:cs[32]?=some (.string (bs r.raw)):=by rw[h.hcs];exact Iy h.hr
 have S5:=KP (vn:=.slice An r.name.length cn) (vt:=tS) (vm:=tS) (xH r) r.raw;have l5:=uP (vn:=.slice An r.name.length cn) (vt:=tS) (vm:=tS) (r:={uR r with raw:=r.raw}) ⟨J,J⟩;have R5:xd w (vy (.slice An r.name.length cn) tS tS {uR r with raw:=r.raw}) {uR r with raw:=r.raw}:=⟨An,cn,none,0,none,0,J,⟨J,J⟩,h.hN,xj.nil w,xj.nil w,h.afB⟩;have SM:=Y (fun w' (b:al w w')=>zf _ cs {uR r with raw:=r.raw} r w' (R5.G b) (RW.G b));clear h R5 RW O hE hw;generalize decide ({uR r with raw:=r.raw}=r)=sb at*;generalize vy (.slice An r.name.length cn) tS tS {uR r with raw:=r.raw}=L5 at*;generalize r.raw=raw at*;generalize vy (.slice An r.name.length cn) tS tS (uR r)=L4 at*;generalize r.name.length=nn,r.tg.length=nt at*;generalize r.ml.length=nm,r.E=E at*;generalize r.N=N,r.ak=ak at*;have hB0:Below w.heap.size w (w.alloc (.cells cs.toArray 119)):=gj;have B0:=Z.new w 119 cs;go_enter func161,ntmps161;go_wp2_with fail;refine(CN.out _ hB0).mono ?_;rintro _ w1 ⟨rfl,rfl⟩;go_wp2_with fail;refine(O1.out _).mono ?_;rintro _ w1 ⟨rfl,rfl⟩;go_wp2_with fail;refine(O2.out _).mono ?_;rintro _ w1 ⟨rfl,rfl⟩;go_wp2_with fail;refine(O3.out _).mono ?_;rintro _ w1 ⟨rfl,rfl⟩;clear O1 O2 O3 CN;go_wp2_with(refine tO (.load 119 (.tmp 1)) J ?_;go_must(refine tP J _ _ J w.heap.size 0 J B0 33 I _ underlying119 J uu cs (wg I) ?_));refine(BR.out _).mono ?_;rintro _ w2 ⟨rfl,b2⟩;have B1':=(B0.G b2 B0.lt).alloc (.cells vG.toArray 119);have hk:=tL hB0 hB0.size b2;have Hh:w.heap.size<w2.heap.size:=iA;clear B0 hB0 b2 BR L0 L1 L2 L3;go_wp2_with(refine tO (.store 119 (.tmp 4) (.tmp 27)) J (ab J w2.heap.size 0 L4 (Z.vP _ _ vG _ ap) bi cY ZC.out ?_));intro w3 hb3 hg3 hs3;rw[List.drop_of_length_le bi,List.append_nil]at hb3;have B4:=hb3;have B1:Z w3 w.heap.size 119 cs:=kh;have HB:al w w3:=gT;clear hb3 hg3 hk B1' hs3;have u1:=B1.K 1 M1;have u2:=B1.K 2 M2;go_wp2_with fail;refine(hb.out _).mono ?_;rintro _ w4 ⟨rfl,rfl⟩;clear hb u1 u2 M1 M2;have u32:=B1.K 32 M32;go_wp2_with(refine tO (.store 9 (.tmp 36) (.tmp 35)) J (af J w2.heap.size 32 (.string (bs raw)) B4 I Kw ?_));clear u32;intro w4 hb4 hg4 hs4;replace B4:=hb4;replace B1:=B1.grown hg4 az;replace HB:=tN HB hg4 HB.size I;clear hb4 hg4 hs4
 (try rw[S5]at B4)
 have u32:=B1.K 32 M32;clear S5 M32;by_cases U:65535<raw.length
 ·have e1:(65535:Int)<raw.length:=I;rw[if_pos U]at HE;have hr0:res=_:=hI;subst hr0;clear HE;exact oH
 ·
  have e1:¬(65535:Int)<raw.length:=I;rw[if_neg U]at HE;have hr0:=Y (HE.out.trans (if_neg ap));clear HE;go_wp2_with(first
   |(refine tO (.load 119 (.tmp 4)) rfl ?_;refine uC (by kernel_rfl) 119 (.tmp 4) rfl w2.heap.size 0 rfl B4 33 I _ underlying119 rfl uu L5 (wg I) ?_)
   |(refine tO (.load 119 (.tmp 1)) rfl ?_;refine uC (by kernel_rfl) 119 (.tmp 1) rfl w.heap.size 0 rfl B1 33 I _ underlying119 rfl uu cs (wg I) ?_))
  refine(SM.out _ HB).mono ?_;rintro _ w9 ⟨rfl,b9⟩;have HB9:=tL HB HB.size b9;cases sb with
  |false=>have hr1:res=5:=gZ;subst hr1;clear hr0;exact oV
  |true=>have hr1:res=0:=gZ;subst hr1;clear hr0;exact oV
theorem abi(cs:List Value)(r:RR)(w:World)(h:Good cs r w An cn At ct Am cm)(O:uo r.E r.N=33):Calls prog 161 #[.agg cs.toArray] w (uf (.int .i64 (CQ r)) w):=by
 have hw:EF r={uR r with pri:=r.pri,we:=r.we,po:=r.po,tg:=r.tg}:=iP;have hE:yd r=(if([r.pri,r.we,r.po].all (xN 65535))then tY r.tg else 4):=gS;have hl:cs.length=33:=ir;have L0:∀hi:0<cs.length,cs[0]'hi= .slice An r.name.length cn:=iC;have L1:∀hi:1<cs.length,cs[1]'hi= .int .i64 r.E:=iC;have L2:∀hi:2<cs.length,cs[2]'hi= .int .i64 r.N:=iC;have L3:∀hi:3<cs.length,cs[3]'hi= .int .i64 r.ak:=iC;have M1:cs[1]?=some (.int .i64 r.E):=cU;have M2:cs[2]?=some (.int .i64 r.N):=cU;have CN:=Y (fun w' (b:al w w')=>uS An cn r.name w' (h.hN.G b).1 cV);rw[h.h0]at CN;have O1:=Y (fun w=>uI r.E 65535 w);have O2:=Y (fun w=>uI r.N 65535 w);have O3:=Y (fun w=>uI r.ak 4294967295 w);rw[h.U]at O1;rw[h.X]at O2;rw[h.h3]at O3;have BR:=Y (fun w=>Dg An r.name.length cn (.slice At r.tg.length ct) (.slice Am r.ml.length cm) r h.hr w);rw[<-h.hcs]at BR;have hb:=Y (fun w=>uU r.E r.N w);rw[O]at hb;have ZL:=uP (vn:=.slice An r.name.length cn) (vt:=tS) (vm:=tS) (xH r);have ZC:=Y (wj (vn:=.slice An r.name.length cn) (vt:=tS) (vm:=tS) (r:=uR r) J J J);have RW:xd w cs r:=gI;have HE:Hid (CQ r=_):=Y cW;generalize CQ r=res at*;rw[hE,hw]at HE;have M22:cs[22]?=some (.slice At r.tg.length ct):=km;have M24:cs[24]?=some (.int .i64 r.pri):=by rw[h.hcs];exact Iv h.hr
 have M25:cs[25]?=some (.int .i64 r.we):=by rw[h.hcs];exact Iw h.hr
 have M26:cs[26]?=some (.int .i64 r.po):=by rw[h.hcs];exact Ix h.hr
 have S5:=Y (show((((vy (.slice An r.name.length cn) tS tS (uR r)).set 24 (.int .i64 r.pri)).set 25 (.int .i64 r.we)).set 26 (.int .i64 r.po)).set 22 (.slice At r.tg.length ct)=vy (.slice An r.name.length cn) (.slice At r.tg.length ct) tS {uR r with pri:=r.pri,we:=r.we,po:=r.po,tg:=r.tg}by
  rw[KN (xH r),Nq ⟨J,J⟩,Nr ⟨J,J⟩,Bo ⟨J,J⟩];rfl)
 have l5:=uP (vn:=.slice An r.name.length cn) (vt:=.slice At r.tg.length ct) (vm:=tS) (r:={uR r with pri:=r.pri,we:=r.we,po:=r.po,tg:=r.tg}) ⟨J,J⟩;have R5:xd w (vy (.slice An r.name.length cn) (.slice At r.tg.length ct) tS {uR r with pri:=r.pri,we:=r.we,po:=r.po,tg:=r.tg}) {uR r with pri:=r.pri,we:=r.we,po:=r.po,tg:=r.tg}:=je;have SM:=Y (fun w' (b:al w w')=>zf _ cs {uR r with pri:=r.pri,we:=r.we,po:=r.po,tg:=r.tg} r w' (R5.G b) (RW.G b));have CT:=Y (fun w' (b:al w w')=>uS At ct r.tg w' (h.hT.G b).1 cX);have Q1:=Y (fun w=>uI r.pri 65535 w);have Q2:=Y (fun w=>uI r.we 65535 w);have Q3:=Y (fun w=>uI r.po 65535 w);have h3:[r.pri,r.we,r.po].all (xN 65535)=(xN 65535 r.pri&&(xN 65535 r.we&&xN 65535 r.po)):=ap;rw[h3]at HE;clear h R5 RW O hE hw h3;generalize decide ({uR r with pri:=r.pri,we:=r.we,po:=r.po,tg:=r.tg}=r)=sb at*;generalize vy (.slice An r.name.length cn) (.slice At r.tg.length ct) tS {uR r with pri:=r.pri,we:=r.we,po:=r.po,tg:=r.tg}=L5 at*;generalize tY r.tg=ec at*;generalize xN 65535 r.pri=b1 at*;generalize xN 65535 r.we=b2 at*;generalize xN 65535 r.po=b3 at*;generalize r.pri=n1,r.we=n2,r.po=n3 at*;generalize vy (.slice An r.name.length cn) tS tS (uR r)=L4 at*;generalize r.name.length=nn,r.tg.length=nt at*;generalize r.ml.length=nm,r.E=E at*;generalize r.N=N,r.ak=ak at*;have hB0:Below w.heap.size w (w.alloc (.cells cs.toArray 119)):=gj;have B0:=Z.new w 119 cs;go_enter func161,ntmps161;go_wp2_with fail;refine(CN.out _ hB0).mono ?_;rintro _ w1 ⟨rfl,rfl⟩;go_wp2_with fail;refine(O1.out _).mono ?_;rintro _ w1 ⟨rfl,rfl⟩;go_wp2_with fail;refine(O2.out _).mono ?_;rintro _ w1 ⟨rfl,rfl⟩;go_wp2_with fail;refine(O3.out _).mono ?_;rintro _ w1 ⟨rfl,rfl⟩;clear O1 O2 O3 CN;go_wp2_with(refine tO (.load 119 (.tmp 1)) J ?_;go_must(refine tP J _ _ J w.heap.size 0 J B0 33 I _ underlying119 J uu cs (wg I) ?_));refine(BR.out _).mono ?_;rintro _ w2 ⟨rfl,b2⟩;have B1':=(B0.G b2 B0.lt).alloc (.cells vG.toArray 119);have hk:=tL hB0 hB0.size b2;have Hh:w.heap.size<w2.heap.size:=iA;clear B0 hB0 b2 BR L0 L1 L2 L3;go_wp2_with(refine tO (.store 119 (.tmp 4) (.tmp 27)) J (ab J w2.heap.size 0 L4 (Z.vP _ _ vG _ ap) bi cY ZC.out ?_));intro w3 hb3 hg3 hs3;rw[List.drop_of_length_le bi,List.append_nil]at hb3;have B4:=hb3;have B1:Z w3 w.heap.size 119 cs:=kh;have HB:al w w3:=gT;clear hb3 hg3 hk B1' hs3;have u1:=B1.K 1 M1;have u2:=B1.K 2 M2;go_wp2_with fail;refine(hb.out _).mono ?_;rintro _ w4 ⟨rfl,rfl⟩;clear hb u1 u2 M1 M2;have u24:=B1.K 24 M24;go_wp2_with(refine tO (.store 3 (.tmp 90) (.tmp 89)) J (af J w2.heap.size 24 (.int .i64 n1) B4 I uB ?_));clear u24;intro w4 hb4 hg4 hs4;replace B4:=hb4;replace B1:=B1.grown hg4 az;replace HB:=tN HB hg4 HB.size I;clear hb4 hg4 hs4;have u25:=B1.K 25 M25;go_wp2_with(refine tO (.store 3 (.tmp 93) (.tmp 92)) J (af J w2.heap.size 25 (.int .i64 n2) B4 az uB ?_));clear u25;intro w4 hb4 hg4 hs4;replace B4:=hb4;replace B1:=B1.grown hg4 az;replace HB:=tN HB hg4 HB.size I;clear hb4 hg4 hs4;have u26:=B1.K 26 M26;go_wp2_with(refine tO (.store 3 (.tmp 96) (.tmp 95)) J (af J w2.heap.size 26 (.int .i64 n3) B4 az uB ?_));clear u26;intro w4 hb4 hg4 hs4;replace B4:=hb4;replace B1:=B1.grown hg4 az;replace HB:=tN HB hg4 HB.size I;clear hb4 hg4 hs4;have u22:=B1.K 22 M22;go_wp2_with(refine tO (.store 26 (.tmp 99) (.tmp 98)) J (af J w2.heap.size 22 (.slice At nt ct) B4 az vh ?_));clear u22;intro w4 hb4 hg4 hs4;replace B4:=hb4;replace B1:=B1.grown hg4 az;replace HB:=tN HB hg4 HB.size I;clear hb4 hg4 hs4;rw[S5.out]at B4;have u22:=B1.K 22 M22;go_wp2_with fail;refine(CT.out _ HB).mono ?_;rintro _ w5 ⟨rfl,rfl⟩;clear CT u22 M22 S5;have u24:=B1.K 24 M24;have u25:=B1.K 25 M25;have u26:=B1.K 26 M26;clear M24 M25 M26;go_wp2_with fail;refine(Q1.out _).mono ?_;rintro _ w5 ⟨rfl,rfl⟩;clear Q1;cases b1 with
 |false=>have HE:Hid (res=if(4:Int)≠0 then 4 else if sb=true then 0 else 5):=HE;have hr0:res=_:=hI;subst hr0;clear HE;exact oH
 |true=>
 go_wp2_with fail;refine(Q2.out _).mono ?_;rintro _ w5 ⟨rfl,rfl⟩;clear Q2;cases b2 with
 |false=>have HE:Hid (res=if(4:Int)≠0 then 4 else if sb=true then 0 else 5):=HE;have hr0:res=_:=hI;subst hr0;clear HE;exact oH
 |true=>
 go_wp2_with fail;refine(Q3.out _).mono ?_;rintro _ w5 ⟨rfl,rfl⟩;clear Q3;cases b3 with
 |false=>have HE:Hid (res=if(4:Int)≠0 then 4 else if sb=true then 0 else 5):=HE;have hr0:res=_:=hI;subst hr0;clear HE;exact oH
 |true=>
 replace HE:Hid (res=if ec≠0 then ec else if sb=true then 0 else 5):=HE;obtain⟨e,he⟩:∃e,e=ec:=gp;rw[<-he]at HE⊢;clear he;by_cases he0:e=0
 ·
  subst he0;have hr0:=Y (HE.out.trans (if_neg ap));clear HE;go_wp2_with(first
   |(refine tO (.load 119 (.tmp 4)) rfl ?_;refine uC (by kernel_rfl) 119 (.tmp 4) rfl w2.heap.size 0 rfl B4 33 I _ underlying119 rfl uu L5 (wg I) ?_)
   |(refine tO (.load 119 (.tmp 1)) rfl ?_;refine uC (by kernel_rfl) 119 (.tmp 1) rfl w.heap.size 0 rfl B1 33 I _ underlying119 rfl uu cs (wg I) ?_))
  refine(SM.out _ HB).mono ?_;rintro _ w9 ⟨rfl,b9⟩;have HB9:=tL HB HB.size b9;cases sb with
  |false=>have hr1:res=5:=gZ;subst hr1;clear hr0;exact oV
  |true=>have hr1:res=0:=gZ;subst hr1;clear hr0;exact oV
 ·have hr0:=HE.out.trans (if_pos he0);subst hr0;have he1:(res==0)=false:=iD;clear HE he0;exact oH
def II(e0:Int)(h1:List Int)(k:Nat):Int:=if e0≠0 then e0 else if(h1.take k).all (xN 4294967295)then 0 else 4
theorem WL(e0:Int)(h1:List Int):II e0 h1 0=e0:=by
 unfold II;by_cases h:e0=0
 ·simp[h]
 ·simp[h]
theorem WM(e0:Int)(h1:List Int)(k:Nat)(O:k<h1.length):II e0 h1 (k+1)=if II e0 h1 k=0 then(if xN 4294967295 h1[k]then 0 else 4)else II e0 h1 k:=by
 unfold II;rw[List.take_succ_eq_append_getElem O,List.all_append];by_cases h:e0=0
 ·simp only[h,ne_eq,not_true_eq_false,if_false];simp only[List.all_cons,List.all_nil,Bool.and_true];generalize xN 4294967295 h1[k]=b;generalize(h1.take k).all (xN 4294967295)=c;cases c<;>cases b<;>rfl
 ·simp[h]
theorem Zm(a b:Int)(h1:List Int)(h:h1.length=5):(if a≠0 then a else if b≠0 then b else if h1.all (xN 4294967295)then 0 else 4)=II (if a=0 then b else a) h1 5:=by
 unfold II;rw[List.take_of_length_le I];by_cases ha:a=0
 ·simp[ha]
 ·simp[ha]
theorem ada(cs:List Value)(r:RR)(w:World)(h:Good cs r w An cn At ct Am cm)(O:uo r.E r.N=6):Calls prog 161 #[.agg cs.toArray] w (uf (.int .i64 (CQ r)) w):=by
 have hw:EF r={uR r with tg:=r.tg,ml:=r.ml,h1:=r.h1}:=iP;have hE:yd r=II (if tY r.tg=0 then tY r.ml else tY r.tg) r.h1 5:=by rw[<-Zm _ _ _ h.hr.2];unfold yd;rw[O];rfl
 have hl:cs.length=33:=ir;have L0:∀hi:0<cs.length,cs[0]'hi= .slice An r.name.length cn:=iC;have L1:∀hi:1<cs.length,cs[1]'hi= .int .i64 r.E:=iC;have L2:∀hi:2<cs.length,cs[2]'hi= .int .i64 r.N:=iC;have L3:∀hi:3<cs.length,cs[3]'hi= .int .i64 r.ak:=iC;have M1:cs[1]?=some (.int .i64 r.E):=cU;have M2:cs[2]?=some (.int .i64 r.N):=cU;have CN:=Y (fun w' (b:al w w')=>uS An cn r.name w' (h.hN.G b).1 cV);rw[h.h0]at CN;have O1:=Y (fun w=>uI r.E 65535 w);have O2:=Y (fun w=>uI r.N 65535 w);have O3:=Y (fun w=>uI r.ak 4294967295 w);rw[h.U]at O1;rw[h.X]at O2;rw[h.h3]at O3;have BR:=Y (fun w=>Dg An r.name.length cn (.slice At r.tg.length ct) (.slice Am r.ml.length cm) r h.hr w);rw[<-h.hcs]at BR;have hb:=Y (fun w=>uU r.E r.N w);rw[O]at hb;have ZL:=uP (vn:=.slice An r.name.length cn) (vt:=tS) (vm:=tS) (xH r);have ZC:=Y (wj (vn:=.slice An r.name.length cn) (vt:=tS) (vm:=tS) (r:=uR r) J J J);have RW:xd w cs r:=gI;have HE:Hid (CQ r=_):=Y cW;generalize CQ r=res at*;rw[hE,hw]at HE;have h5:=h.hr.2;have M22:cs[22]?=some (.slice At r.tg.length ct):=km;have M23:cs[23]?=some (.slice Am r.ml.length cm):=by rw[h.hcs];exact Iu h.hr
 have MN:Hid ((cs.drop 27).take 5=uF r.h1):=Y (by rw[h.hcs];exact Ep h.hr);have MK:Hid (∀(i:Nat) (hi:i<r.h1.length),cs[27+i]?=some (.int .i64 r.h1[i])):=Y (fun i hi=>by rw[h.hcs,Vb h.hr i I];simp[List.getD,hi]);have S5:=Y (show(((vy (.slice An r.name.length cn) tS tS (uR r)).set 22 (.slice At r.tg.length ct)).set 23 (.slice Am r.ml.length cm)).take 27++uF r.h1++(((vy (.slice An r.name.length cn) tS tS (uR r)).set 22 (.slice At r.tg.length ct)).set 23 (.slice Am r.ml.length cm)).drop 32=vy (.slice An r.name.length cn) (.slice At r.tg.length ct) (.slice Am r.ml.length cm) {uR r with tg:=r.tg,ml:=r.ml,h1:=r.h1}by
  rw[Bo (xH r),Np (xH r),Jl (xH r) _ h5];rfl)
 have l5:=uP (vn:=.slice An r.name.length cn) (vt:=.slice At r.tg.length ct) (vm:=.slice Am r.ml.length cm) (r:={uR r with tg:=r.tg,ml:=r.ml,h1:=r.h1}) ⟨J,h5⟩;have R5:xd w (vy (.slice An r.name.length cn) (.slice At r.tg.length ct) (.slice Am r.ml.length cm) {uR r with tg:=r.tg,ml:=r.ml,h1:=r.h1}) {uR r with tg:=r.tg,ml:=r.ml,h1:=r.h1}:=⟨An,cn,At,ct,Am,cm,J,⟨J,h5⟩,h.hN,h.hT,h.hM,by simp[uR,RR.zero]⟩;have SM:=Y (fun w' (b:al w w')=>zf _ cs {uR r with tg:=r.tg,ml:=r.ml,h1:=r.h1} r w' (R5.G b) (RW.G b));have CT:=Y (fun w' (b:al w w')=>uS At ct r.tg w' (h.hT.G b).1 cX);have CM:=Y (fun w' (b:al w w')=>uS Am cm r.ml w' (h.hM.G b).1 (by have:=h.hM.2.2.1;omega));have NL:(uF r.h1).length=5:=by simp[uF,h5]
 have N1:Hid (∀v∈uF r.h1,v.oneCell'=true):=Y (fun v hv=>by obtain⟨b,_,rfl⟩:=List.mem_map.1 hv;rfl);clear h R5 RW O hE hw;generalize decide ({uR r with tg:=r.tg,ml:=r.ml,h1:=r.h1}=r)=sb at*;generalize vy (.slice An r.name.length cn) (.slice At r.tg.length ct) (.slice Am r.ml.length cm) {uR r with tg:=r.tg,ml:=r.ml,h1:=r.h1}=L5 at*;generalize tY r.tg=e1 at*;generalize tY r.ml=e2 at*;generalize r.h1=h1 at*;generalize uF h1=LN at*;generalize vy (.slice An r.name.length cn) tS tS (uR r)=L4 at*;generalize r.name.length=nn,r.tg.length=nt at*;generalize r.ml.length=nm,r.E=E at*;generalize r.N=N,r.ak=ak at*;obtain⟨e0,he0⟩:∃e0,e0=if e1=0 then e2 else e1:=gp
 rw[<-he0]at HE;have HE0:=Y he0;clear he0;have S0:=Y (WL e0 h1);have hB0:Below w.heap.size w (w.alloc (.cells cs.toArray 119)):=gj;have B0:=Z.new w 119 cs;go_enter func161,ntmps161;go_wp2_with fail;refine(CN.out _ hB0).mono ?_;rintro _ w1 ⟨rfl,rfl⟩;go_wp2_with fail;refine(O1.out _).mono ?_;rintro _ w1 ⟨rfl,rfl⟩;go_wp2_with fail;refine(O2.out _).mono ?_;rintro _ w1 ⟨rfl,rfl⟩;go_wp2_with fail;refine(O3.out _).mono ?_;rintro _ w1 ⟨rfl,rfl⟩;clear O1 O2 O3 CN;go_wp2_with(refine tO (.load 119 (.tmp 1)) J ?_;go_must(refine tP J _ _ J w.heap.size 0 J B0 33 I _ underlying119 J uu cs (wg I) ?_));refine(BR.out _).mono ?_;rintro _ w2 ⟨rfl,b2⟩;have B1':=(B0.G b2 B0.lt).alloc (.cells vG.toArray 119);have hk:=tL hB0 hB0.size b2;have Hh:w.heap.size<w2.heap.size:=iA;clear B0 hB0 b2 BR L0 L1 L2 L3;go_wp2_with(refine tO (.store 119 (.tmp 4) (.tmp 27)) J (ab J w2.heap.size 0 L4 (Z.vP _ _ vG _ ap) bi cY ZC.out ?_));intro w3 hb3 hg3 hs3;rw[List.drop_of_length_le bi,List.append_nil]at hb3;have B4:=hb3;have B1:Z w3 w.heap.size 119 cs:=kh;have HB:al w w3:=gT;clear hb3 hg3 hk B1' hs3;have u1:=B1.K 1 M1;have u2:=B1.K 2 M2;go_wp2_with fail;refine(hb.out _).mono ?_;rintro _ w4 ⟨rfl,rfl⟩;clear hb u1 u2 M1 M2;have u22:=B1.K 22 M22;go_wp2_with(refine tO (.store 26 (.tmp 120) (.tmp 119)) J (af J w2.heap.size 22 (.slice At nt ct) B4 I vh ?_));clear u22;intro w4 hb4 hg4 hs4;replace B4:=hb4;replace B1:=B1.grown hg4 az;replace HB:=tN HB hg4 HB.size I;clear hb4 hg4 hs4;have u23:=B1.K 23 M23;go_wp2_with(refine tO (.store 26 (.tmp 123) (.tmp 122)) J (af J w2.heap.size 23 (.slice Am nm cm) B4 az vh ?_));clear u23;intro w4 hb4 hg4 hs4;replace B4:=hb4;replace B1:=B1.grown hg4 az;replace HB:=tN HB hg4 HB.size I;clear hb4 hg4 hs4;go_wp2_with(first
  |(refine tO (.load 117 (.tmp 124)) rfl ?_;refine tP rfl _ _ rfl w.heap.size 27 rfl B1 5 I _ underlying117 rfl wE LN MN.out ?_)
  |(refine tO (.store 117 (.tmp 126) (.tmp 125)) rfl ?_;refine DD rfl _ _ _ rfl w2.heap.size 27 rfl LN rfl B4 az (by rw[NL];exact wE) N1.out ?_))
 intro w4 hb4 hg4 hs4;replace B4:=hb4;replace B1:=B1.grown hg4 az;replace HB:=tN HB hg4 HB.size I;clear hb4 hg4 hs4;rw[<-List.append_assoc,S5.out]at B4;have u22:=B1.K 22 M22;go_wp2_with fail;refine(CT.out _ HB).mono ?_;rintro _ w5 ⟨rfl,rfl⟩;clear CT u22 M22 S5 MN N1;have c23:=B1.K 23 M23;clear M23;go_upto_if 131 with fail;go_cut[3] (fun ev wx=>ev= .int .i64 e0/\w4=wx)
 case first=>
  by_cases U:e1=0
  ·have hr1:=Y (HE0.out.trans (if_pos U));have h1':(e1==0)=true:=il;clear U;go_wp2_with fail;refine(CM.out _ HB).mono ?_;rintro _ w5 ⟨rfl,rfl⟩;exact s9
  ·have hr1:=Y (HE0.out.trans (if_neg U));have h1':(e1==0)=false:=il;clear U;exact s9
 case rest=>
  obtain⟨rfl,rfl⟩:=hcut;clear c23 CM HE0;go_wp2_with fail;go_loopw[3,6] (fun ev iv wr=>∃k:Nat,k<=5/\iv= .int .i64 k/\ev= .int .i64 (II e0 h1 k)/\wr=w4) (fun _ iv _=>5-(intOf iv).toNat)
  case atStart=>exact⟨0,I,J,by rw[S0.out],J⟩
  case round=>
   obtain⟨k,O,rfl,rfl,rfl⟩:=hrel;by_cases Hh:k<5
   ·
    have tQ:(k:Int)<5:=I;have SS:=Y (WM e0 h1 k I);have hc:=B1.K (27+k) (MK.out k I);have Q:=Y (fun w=>uI (h1[k]'I) 4294967295 w);obtain⟨es,hes⟩:∃es,es=II e0 h1 (k+1):=gp;rw[<-hes]at SS;have HES:=Y hes.symm;clear hes;generalize II e0 h1 k=ek at*;generalize xN 4294967295 (h1[k]'I)=bk at*;generalize(h1[k]'I)=nk at*;clear S0 MK;by_cases he:ek=0
    ·
     subst he;have S1:=Y (SS.out.trans (if_pos J));clear SS;go_wp2_with fail;refine(Q.out _).mono ?_;rintro _ w5 ⟨rfl,rfl⟩;cases bk with
     |false=>
      obtain rfl:es=4:=by simpa using S1.out
      exact rI
     |true=>
      obtain rfl:es=0:=by simpa using S1.out
      exact rI
    ·
     have S1:=Y (SS.out.trans (if_neg he));have he':(ek==0)=false:=iu;clear SS he;go_wp2_with fail;go_roundw
     case rel=>exact⟨k+1,I,fU,by rw[HES.out,S1.out],trivial⟩
     case measure=>simp[intOf];omega
   ·
    obtain rfl:k=5:=I;clear S0 MK Hh;generalize II e0 h1 5=e at*;by_cases he0:e=0
    ·
     subst he0;have hr0:=Y (HE.out.trans (if_neg ap));clear HE;go_wp2_with(first
      |(refine tO (.load 119 (.tmp 4)) rfl ?_;refine uC (by kernel_rfl) 119 (.tmp 4) rfl w2.heap.size 0 rfl B4 33 I _ underlying119 rfl uu L5 (wg I) ?_)
      |(refine tO (.load 119 (.tmp 1)) rfl ?_;refine uC (by kernel_rfl) 119 (.tmp 1) rfl w.heap.size 0 rfl B1 33 I _ underlying119 rfl uu cs (wg I) ?_))
     refine(SM.out _ HB).mono ?_;rintro _ w9 ⟨rfl,b9⟩;have HB9:=tL HB HB.size b9;cases sb with
     |false=>have hr1:res=5:=gZ;subst hr1;clear hr0;exact oV
     |true=>have hr1:res=0:=gZ;subst hr1;clear hr0;exact oV
    ·have hr0:=HE.out.trans (if_pos he0);subst hr0;have he1:(res==0)=false:=iD;clear HE he0;exact oH
theorem xI(cs:List Value)(r:RR)(w:World)(h:xd w cs r):Calls prog 161 #[.agg cs.toArray] w (uf (.int .i64 (uk r)) w):=by
 by_cases h0:tY r.name=0
 case neg=>
  have e:uk r=tY r.name:=by unfold uk;rw[if_pos h0]
  rw[e];exact JP cs r w h h0
 by_cases F:xN 65535 r.E=true/\xN 65535 r.N=true/\xN 4294967295 r.ak=true
 case neg=>
  have e:uk r=4:=by unfold uk;rw[if_neg bd,if_pos];simp only[List.all_cons,List.all_nil,Bool.and_true,Bool.and_eq_true];by_cases U:xN 65535 r.E=true<;>by_cases X:xN 65535 r.N=true<;>by_cases h3:xN 4294967295 r.ak=true<;>simp_all
  rw[e];exact IH cs r w h h0 F
 obtain⟨b1,b2,b3⟩:=F;have e:uk r=CQ r:=by unfold uk CQ;rw[if_neg bd,if_neg (by simp[b1,b2,b3]),Zl]
 rw[e];obtain⟨An,cn,At,ct,Am,cm,hcs,hr,hN,hT,hM,afB⟩:=h;have g:Good cs r w An cn At ct Am cm:=⟨hcs,hr,hN,hT,hM,afB,h0,b1,b2,b3⟩;rcases zr r.E r.N with O|O|O|O|O|O
 ·exact ac8 cs r w g O
 ·exact abh cs r w g O
 ·exact ac7 cs r w g O
 ·exact abi cs r w g O
 ·exact ada cs r w g O
 ·exact ac9 cs r w g O
def Dp(lo:Nat)(w:World)(p:Option Addr):Option Bp->Prop
 |none=>p=none
 |some T=>∃g,p=some ⟨g,0,none⟩/\lo<=g/\FY lo w g T
theorem Dp.G{p:Option Addr}{T:Option Bp}(h:Dp lo w p T)(tK:lo<=w.heap.size)(F:al w w'):Dp lo w' p T:=by
 cases T with
 |none=>exact h
 |some T=>obtain⟨g,U,X,h3⟩:=h;exact⟨g,U,X,h3.G tK F⟩
def Rg(lo:Nat)(p:Option Addr)(s:List UInt8)(e:Int)(T:Option Bp)(w:World)(x:Ending)(w':World):Prop:=
 x= .returned (.tuple #[.string (bs s),.int .i64 e])/\Dp lo w' p T/\vp lo w w'
theorem AH(lo:Nat)(p:Option Addr)(T:Option Bp)(A:Option Addr)(c:Nat)(n:List (List UInt8))(ud:Int)(w0 w:World)(h0:w0.heap.size<=lo)(hb0:al w0 w)(tK:lo<=w.heap.size)(hT:Dp lo w p T)(hA:xj w0 A c n)(hf:yQ T 900000):
  Calls prog 112 #[.pointer p,.slice A n.length c,.int .i64 ud] w (Rg lo p (uE T ud n) (tY n) (vf T ud n) w):=by
 cases T with
 |none=>obtain rfl:p=none:=hT;refine(Gj A c n ud w (hA.G hb0)).mono ?_;rintro _ w' ⟨rfl,hB⟩;exact⟨J,J,vp.zq hB tK⟩
 |some T=>obtain⟨g,rfl,X,h4⟩:=hT;refine(Mt lo g T A c n ud w h4 tK X (FT.of hA.1 hb0 h0) (hA.G hb0) (hf T J)).mono ?_;rintro _ w' ⟨rfl,h5,h6⟩;exact⟨J,⟨g,J,X,h5⟩,h6⟩
theorem yl(n:Int)(w:World):Calls prog 84 #[.int .i64 2,.int .i64 n] w (uf (.string (bs (tT 2 n))) w):=wC 2 n w
theorem zw(n:Int)(w:World):Calls prog 84 #[.int .i64 4,.int .i64 n] w (uf (.string (bs (tT 4 n))) w):=wC 4 n w
theorem vp.uG(h:vp lo w w'){g:Nat}{cs:List Value}(F:Z w g 119 cs):Z w' g 119 cs:=h.2 g _ cs F ax ax
theorem Pn(cs:List Value)(r:RR)(ud:Int)(p:Option Addr)(w:World)(h:xd w cs r)(hc:uk r≠0):
  Calls prog 114 #[.agg cs.toArray,.int .i64 ud,.pointer p] w (uf (.tuple #[.string (bs []),.int .i64 (uk r)]) w):=by
 have CK:=Y (fun w' (b:al w w')=>xI cs r w' (h.G b));have hl:cs.length=33:=gv;generalize uk r=e at*;have he:(e !=0)=true:=iK;clear hc h;have B0:=Z.new w 119 cs;have HB0:Below w.heap.size w (w.alloc (.cells cs.toArray 119)):=gj;go_enter func114,ntmps114;exact pE
theorem Po(cs:List Value)(r:RR)(ud:Int)(p:Option Addr)(w:World)(h:xd w cs r)(hc:uk r=0)(O:uo r.E r.N=0):
  Calls prog 114 #[.agg cs.toArray,.int .i64 ud,.pointer p] w (uf (.tuple #[.string (bs r.raw),.int .i64 0]) w):=by
 have CK:=Y (fun w' (b:al w w')=>xI cs r w' (h.G b));have hl:cs.length=33:=gv;have L1:cs[1]?=some (.int .i64 r.E):=gu;have L2:cs[2]?=some (.int .i64 r.N):=gu;have hb:=Y (fun w=>uU r.E r.N w);have L32:cs[32]?=some (.string (bs r.raw)):=jP;rw[O]at hb;rw[hc]at CK;clear h hc O;generalize r.E=E,r.N=N at*;have B0:=Z.new w 119 cs;have HB0:Below w.heap.size w (w.alloc (.cells cs.toArray 119)):=gj;go_enter func114,ntmps114;go_wp2_with(refine tO (.load 119 (.tmp 3)) J ?_;go_must(refine tP J _ _ J w.heap.size 0 J B0 33 I _ underlying119 J uu cs (wg I) ?_));go_wp2_with fail;refine(CK.out _ HB0).mono ?_;rintro _ w2 ⟨rfl,b2⟩;have B:=B0.G b2 B0.lt;have HB:=tL HB0 HB0.size b2;clear B0 HB0 b2 CK;have c1:=B.K 1 L1;have c2:=B.K 2 L2;go_wp2_with fail;refine(hb.out _).mono ?_;rintro _ w3 ⟨rfl,rfl⟩;clear hb c1 c2 L1 L2;have c32:=B.K 32 L32;clear L32;exact pV
theorem MH(lo:Nat)(cs:List Value)(r:RR)(ud:Int)(p:Option Addr)(T:Option Bp)(w0 w:World)(hh:xd w0 cs r)(h0:w0.heap.size<=lo)(hb0:al w0 w)(tK:lo<=w.heap.size)(hT:Dp lo w p T)(hf:yQ T 900000)(hc:uk r=0)(O:uo r.E r.N=5\/uo r.E r.N=12):
  Calls prog 114 #[.agg cs.toArray,.int .i64 ud,.pointer p] w (Rg lo p (uE T ud r.tg) (tY r.tg) (vf T ud r.tg) w):=by
 have h:=hh.G hb0;have CK:=Y (fun w' (b:al w w')=>xI cs r w' (h.G b));have hl:cs.length=33:=gv;have L1:cs[1]?=some (.int .i64 r.E):=gu;have L2:cs[2]?=some (.int .i64 r.N):=gu;have hb:=Y (fun w=>uU r.E r.N w);obtain⟨At,ct,L22,hR⟩:∃At ct,cs[22]?=some (.slice At r.tg.length ct)/\xj w0 At ct r.tg:=by obtain⟨_,_,At,ct,_,_,rfl,hr,_,hR,_⟩:=hh;exact⟨At,ct,AQ hr,hR⟩
 rw[hc]at CK;clear h hc;have PT:=Y (fun w' (b:al w w')=>AH lo p T At ct r.tg ud w0 w' h0 (tL hb0 hb0.size b) (Nat.le_trans tK b.size) (hT.G tK b) hR hf);generalize uE T ud r.tg=s at*;generalize vf T ud r.tg=T' at*;generalize tY r.tg=e at*;generalize r.tg.length=n at*;generalize uo r.E r.N=k at*;generalize r.E=E,r.N=N at*;clear hT hf hR hh hb0;rcases O with rfl|rfl;all_goals
  have B0:=Z.new w 119 cs;have HB0:Below w.heap.size w (w.alloc (.cells cs.toArray 119)):=gj;go_enter func114,ntmps114;go_wp2_with(refine tO (.load 119 (.tmp 3)) J ?_;go_must(refine tP J _ _ J w.heap.size 0 J B0 33 I _ underlying119 J uu cs (wg I) ?_));go_wp2_with fail;refine(CK.out _ HB0).mono ?_;rintro _ w2 ⟨rfl,b2⟩;have B:=B0.G b2 B0.lt;have HB:=tL HB0 HB0.size b2;clear B0 HB0 b2 CK;have c1:=B.K 1 L1;have c2:=B.K 2 L2;go_wp2_with fail;refine(hb.out _).mono ?_;rintro _ w3 ⟨rfl,rfl⟩;clear hb c1 c2 L1 L2;have c22:=B.K 22 L22;clear L22;go_wp2_with fail;refine(PT.out _ HB).mono ?_;rintro _ w3 ⟨rfl,hT3,hB3⟩;go_wp2_with fail;go_ret2;exact⟨J,hT3,(vp.zq HB tK).trans hB3⟩
theorem Gn(cs:List Value)(r:RR)(ud:Int)(p:Option Addr)(w:World)(h:xd w cs r)(hc:uk r=0)(O:uo r.E r.N=1\/uo r.E r.N=28):
  Calls prog 114 #[.agg cs.toArray,.int .i64 ud,.pointer p] w (uf (.tuple #[.string (bs (if uo r.E r.N=1 then r.ad.ip.take 4 else r.ad.ip)),.int .i64 0]) w):=by
 have CK:=Y (fun w' (b:al w w')=>xI cs r w' (h.G b));have hl:cs.length=33:=gv;have L1:cs[1]?=some (.int .i64 r.E):=gu;have L2:cs[2]?=some (.int .i64 r.N):=gu;have hb:=Y (fun w=>uU r.E r.N w);have h16:r.ad.ip.length=16:=kq;have LI:Hid (∀j (hj:j<r.ad.ip.length),cs[5+j]?=some (.int .u8 (r.ad.ip[j].toNat:Int))):=Y bD;rw[hc]at CK;clear h hc;generalize uo r.E r.N=k at*;generalize r.ad.ip=ip,r.E=E,r.N=N at*;rcases O with rfl|rfl
 ·
  rw[if_pos J];have h4:(ip.take 4).length=4:=by simp[h16]
  have B0:=Z.new w 119 cs;have HB0:Below w.heap.size w (w.alloc (.cells cs.toArray 119)):=gj;go_enter func114,ntmps114;go_wp2_with(refine tO (.load 119 (.tmp 3)) J ?_;go_must(refine tP J _ _ J w.heap.size 0 J B0 33 I _ underlying119 J uu cs (wg I) ?_));go_wp2_with fail;refine(CK.out _ HB0).mono ?_;rintro _ w2 ⟨rfl,b2⟩;have B:=B0.G b2 B0.lt;have HB:=tL HB0 HB0.size b2;clear B0 HB0 b2 CK;have c1:=B.K 1 L1;have c2:=B.K 2 L2;go_wp2_with fail;refine(hb.out _).mono ?_;rintro _ w3 ⟨rfl,rfl⟩;clear hb c1 c2 L1 L2;have CV:=J0 (o:=5) B (ip.take 4) 16 (fun j hj=>by rw[LI.out j I];simp);rw[h4]at CV;generalize ip.take 4=q at*;clear LI h16;exact pV
 ·rw[if_neg ax];have B0:=Z.new w 119 cs;have HB0:Below w.heap.size w (w.alloc (.cells cs.toArray 119)):=gj;go_enter func114,ntmps114;go_wp2_with(refine tO (.load 119 (.tmp 3)) J ?_;go_must(refine tP J _ _ J w.heap.size 0 J B0 33 I _ underlying119 J uu cs (wg I) ?_));go_wp2_with fail;refine(CK.out _ HB0).mono ?_;rintro _ w2 ⟨rfl,b2⟩;have B:=B0.G b2 B0.lt;have HB:=tL HB0 HB0.size b2;clear B0 HB0 b2 CK;have c1:=B.K 1 L1;have c2:=B.K 2 L2;go_wp2_with fail;refine(hb.out _).mono ?_;rintro _ w3 ⟨rfl,rfl⟩;clear hb c1 c2 L1 L2;have CV:=J0 (o:=5) B ip 16 (fun j hj=>LI.out j hj);rw[h16]at CV;clear LI;exact pV
theorem Pp(cs:List Value)(r:RR)(ud:Int)(p:Option Addr)(w:World)(h:xd w cs r)(hc:uk r=0)(O:uo r.E r.N=33):
  Calls prog 114 #[.agg cs.toArray,.int .i64 ud,.pointer p] w (uf (.tuple #[.string (bs (tT 2 r.pri++tT 2 r.we++tT 2 r.po++yw r.tg)),.int .i64 0]) w):=by
 have CK:=Y (fun w' (b:al w w')=>xI cs r w' (h.G b));have hl:cs.length=33:=gv;have L1:cs[1]?=some (.int .i64 r.E):=gu;have L2:cs[2]?=some (.int .i64 r.N):=gu;have hb:=Y (fun w=>uU r.E r.N w);obtain⟨At,ct,L22,hR⟩:∃At ct,cs[22]?=some (.slice At r.tg.length ct)/\xj w At ct r.tg:=by exact qN
 have L24:cs[24]?=some (.int .i64 r.pri):=jS;have L25:cs[25]?=some (.int .i64 r.we):=jR;have L26:cs[26]?=some (.int .i64 r.po):=jQ;have hz:(yw r.tg).length<=255:=by exact rY
 rw[hc]at CK;rw[O]at hb;clear h hc O;have PT:=Y (fun w' (b:al w w')=>Gj At ct r.tg 0 w' (hR.G b));generalize yw r.tg=acZ at*;generalize tY r.tg=e at*;generalize r.tg.length=n,r.E=E,r.N=N at*;clear hR;have P1:=Y (fun w=>yl r.pri w);have P2:=Y (fun w=>yl r.we w);have P3:=Y (fun w=>yl r.po w);have l1:=tR 2 r.pri;have l2:=tR 2 r.we;have l3:=tR 2 r.po;generalize tT 2 r.pri=s1 at*;generalize tT 2 r.we=s2 at*;generalize tT 2 r.po=s3 at*;generalize r.pri=pri,r.we=we,r.po=po at*;have B0:=Z.new w 119 cs;have HB0:Below w.heap.size w (w.alloc (.cells cs.toArray 119)):=gj;go_enter func114,ntmps114;go_wp2_with(refine tO (.load 119 (.tmp 3)) J ?_;go_must(refine tP J _ _ J w.heap.size 0 J B0 33 I _ underlying119 J uu cs (wg I) ?_));go_wp2_with fail;refine(CK.out _ HB0).mono ?_;rintro _ w2 ⟨rfl,b2⟩;have B:=B0.G b2 B0.lt;have HB:=tL HB0 HB0.size b2;clear B0 HB0 b2 CK;have c1:=B.K 1 L1;have c2:=B.K 2 L2;go_wp2_with fail;refine(hb.out _).mono ?_;rintro _ w3 ⟨rfl,rfl⟩;clear hb c1 c2 L1 L2;have c22:=B.K 22 L22;clear L22;go_wp2_with fail;refine(PT.out _ HB).mono ?_;rintro _ w3 ⟨rfl,hB3⟩;have B3:=B.G hB3 B.lt;have HB3:=tL HB HB.size hB3;clear B HB hB3 PT;go_wp2_with fail;refine xz (by kernel_rfl) (by kernel_rfl) ?_
 (refine tW (v:=(.pointer (some ⟨w.heap.size,24,none⟩))) J (fun W hW=>by first|(go_simp;done)|(go_simp;omega)) ?_;simp only[z])
 refine vr 3 (.tmp 58) J ⟨w.heap.size,24,none⟩ J J (fun W hW=>tV underlying3 J ((B3.G hW B3.lt).K 24 L24)) ?_;simp only[z];refine vN 84 #[.int .i64 2,.int .i64 pri] J (fun W=>by go_simp) (fun W hW=>uf.zq hW (P1.out W)) ?_;simp only[z]
 (refine tW (v:=(.pointer (some ⟨w.heap.size,25,none⟩))) J (fun W hW=>by first|(go_simp;done)|(go_simp;omega)) ?_;simp only[z])
 refine vr 3 (.tmp 61) J ⟨w.heap.size,25,none⟩ J J (fun W hW=>tV underlying3 J ((B3.G hW B3.lt).K 25 L25)) ?_;simp only[z];refine vN 84 #[.int .i64 2,.int .i64 we] J (fun W=>by go_simp) (fun W hW=>uf.zq hW (P2.out W)) ?_;simp only[z]
 (refine tW (v:=(.string (bs (s1++s2)))) J (fun W hW=>by first|(go_simp;done)|(go_simp;omega)) ?_;simp only[z])
 (refine tW (v:=(.pointer (some ⟨w.heap.size,26,none⟩))) J (fun W hW=>by first|(go_simp;done)|(go_simp;omega)) ?_;simp only[z])
 refine vr 3 (.tmp 65) J ⟨w.heap.size,26,none⟩ J J (fun W hW=>tV underlying3 J ((B3.G hW B3.lt).K 26 L26)) ?_;simp only[z];refine vN 84 #[.int .i64 2,.int .i64 po] J (fun W=>by go_simp) (fun W hW=>uf.zq hW (P3.out W)) ?_;simp only[z]
 (refine tW (v:=(.string (bs (s1++s2++s3)))) J (fun W hW=>by first|(go_simp;done)|(go_simp;omega)) ?_;simp only[z])
 (refine tW (v:=(.string (bs acZ))) J (fun W hW=>by first|(go_simp;done)|(go_simp;omega)) ?_;simp only[z])
 (refine tW (v:=(.string (bs (s1++s2++s3++acZ)))) J (fun W hW=>by first|(go_simp;done)|(go_simp;omega)) ?_;simp only[z])
 (refine tW (v:=(.string (bs (s1++s2++s3++acZ)))) J (fun W hW=>by first|(go_simp;done)|(go_simp;omega)) ?_;simp only[z])
 (refine tW (v:=(.int .i64 0)) J (fun W hW=>by first|(go_simp;done)|(go_simp;omega)) ?_;simp only[z])
 exact rA
theorem WN{r:RR}(hc:uk r=0)(O:uo r.E r.N=6):tY r.tg=0/\tY r.ml=0:=by
 have hE:=(Fc hc).2;have hE6:yd r=(if tY r.tg≠0 then tY r.tg else if tY r.ml≠0 then tY r.ml else if r.h1.all (xN 4294967295)then 0 else 4):=gS;rw[hE6]at hE;have ht:tY r.tg=0:=by exact sT
 refine⟨ht,?_⟩;exact rS
theorem Pq(lo:Nat)(cs:List Value)(r:RR)(ud:Int)(p:Option Addr)(T:Option Bp)(w0 w:World)(hh:xd w0 cs r)(h0:w0.heap.size<=lo)(hb0:al w0 w)(tK:lo<=w.heap.size)(hT:Dp lo w p T)(hf:yQ T 800000)(ha0:0<=ud)(ha1:ud<=1000000)(hc:uk r=0)(O:uo r.E r.N=6):
  Calls prog 114 #[.agg cs.toArray,.int .i64 ud,.pointer p] w (Rg lo p (uE T ud r.tg++uE (vf T ud r.tg) (ud+(uE T ud r.tg).length) r.ml++r.h1.flatMap (tT 4)) 0 (vf (vf T ud r.tg) (ud+(uE T ud r.tg).length) r.ml) w):=by
 have h:=hh.G hb0;obtain⟨ht,hm⟩:=WN hc O;have CK:=Y (fun w' (b:al w w')=>xI cs r w' (h.G b));have hl:cs.length=33:=gv;have L1:cs[1]?=some (.int .i64 r.E):=gu;have L2:cs[2]?=some (.int .i64 r.N):=gu;have hb:=Y (fun w=>uU r.E r.N w);rw[hc]at CK;rw[O]at hb;clear h hc O;obtain⟨An,cn,At,ct,Am,cm,hcs,hr,hN,hTg,hMl,afB⟩:=hh;have L22:cs[22]?=some (.slice At r.tg.length ct):=nT;have L23:cs[23]?=some (.slice Am r.ml.length cm):=nS;have hn5:=hr.2;have LK:Hid (∀(i:Nat) (hi:i<r.h1.length),cs[27+i]?=some (.int .i64 r.h1[i])):=Y (fun i hi=>by rw[hcs,Vb hr i I];simp[List.getD,hi]);clear hcs hN afB hr;have s1l:=wL T ud r.tg;have s2l:=wL (vf T ud r.tg) (ud+(uE T ud r.tg).length) r.ml;have P1:=Y (fun w' (b:al w w')=>AH lo p T At ct r.tg ud w0 w' h0 (tL hb0 hb0.size b) (Nat.le_trans tK b.size) (hT.G tK b) hTg (fun T' h=>Nat.le_trans (hf T' h) I));have P2:=Y (fun w' (b:Below lo w w') (aiF:lo<=w'.heap.size) (hT':Dp lo w' p (vf T ud r.tg))=>AH lo p (vf T ud r.tg) Am cm r.ml (ud+(uE T ud r.tg).length) w0 w' h0 (hb0.trans (b.mono h0)) aiF hT' hMl (fun T' h=>Nat.le_trans ((hf.put ud r.tg) T' h) I));rw[ht]at P1;rw[hm]at P2;clear hT hf hTg hMl ht hm hb0;generalize vf (vf T ud r.tg) (ud+(uE T ud r.tg).length) r.ml=T2 at*;generalize uE (vf T ud r.tg) (ud+(uE T ud r.tg).length) r.ml=s2 at*;generalize uE T ud r.tg=s1 at*;generalize vf T ud r.tg=T1 at*;generalize r.tg.length=ntg,r.ml.length=nml at*;generalize r.h1=h1,r.E=E,r.N=N at*;obtain⟨out,ajg⟩:∃out,out=s1++s2++h1.flatMap (tT 4):=gp;rw[<-ajg];have HO:=Y ajg;clear ajg;obtain⟨n0,n1,n2,n3,n4,rfl⟩:∃n0 n1 n2 n3 n4,h1=[n0,n1,n2,n3,n4]:=by
  match h1,hn5 with
  |[a,b,c,d,e],_=>exact⟨a,b,c,d,e,J⟩
 clear hn5;have L27:cs[27]?=some (.int .i64 n0):=LK.out 0 ap;have L28:cs[28]?=some (.int .i64 n1):=LK.out 1 ap;have L29:cs[29]?=some (.int .i64 n2):=LK.out 2 ap;have L30:cs[30]?=some (.int .i64 n3):=LK.out 3 ap;have L31:cs[31]?=some (.int .i64 n4):=LK.out 4 ap;clear LK;have B0:=Z.new w 119 cs;have HB0:Below w.heap.size w (w.alloc (.cells cs.toArray 119)):=gj;go_enter func114,ntmps114;go_wp2_with(refine tO (.load 119 (.tmp 3)) J ?_;go_must(refine tP J _ _ J w.heap.size 0 J B0 33 I _ underlying119 J uu cs (wg I) ?_));go_wp2_with fail;refine(CK.out _ HB0).mono ?_;rintro _ w2 ⟨rfl,b2⟩;have B:=B0.G b2 B0.lt;have HB:=tL HB0 HB0.size b2;clear B0 HB0 b2 CK;have c1:=B.K 1 L1;have c2:=B.K 2 L2;go_wp2_with fail;refine(hb.out _).mono ?_;rintro _ w3 ⟨rfl,rfl⟩;clear hb c1 c2 L1 L2;have c22:=B.K 22 L22;go_wp2_with fail;refine(P1.out _ HB).mono ?_;rintro _ w2 ⟨rfl,hT2,hB2⟩;have B2:=hB2.uG B;have hk:vp lo w w2:=(vp.zq HB tK).trans hB2;have agm:lo<=w2.heap.size:=vV hk.1 tK;clear P1 c22 hB2 B HB L22;have c23:=B2.K 23 L23;go_wp2_with fail;refine(P2.out _ hk.1 agm hT2).mono ?_;rintro _ w3 ⟨rfl,hT3,hB3⟩;have B3:=hB3.uG B2;have HB3:vp lo w w3:=hk.trans hB3;have afu:lo<=w3.heap.size:=vV HB3.1 tK;clear P2 c23 hB3 hT2 B2 hk agm L23;have l0:=tR 4 n0;have l1:=tR 4 n1;have l2:=tR 4 n2;have l3:=tR 4 n3;have l4:=tR 4 n4;have Q0:=Y (fun w=>zw n0 w);have Q1:=Y (fun w=>zw n1 w);have Q2:=Y (fun w=>zw n2 w);have Q3:=Y (fun w=>zw n3 w);have Q4:=Y (fun w=>zw n4 w);have HO:Hid (out=s1++s2++(tT 4 n0++(tT 4 n1++(tT 4 n2++(tT 4 n3++tT 4 n4))))):=Y bF;generalize tT 4 n0=q0 at*;generalize tT 4 n1=q1 at*;generalize tT 4 n2=q2 at*;generalize tT 4 n3=q3 at*;generalize tT 4 n4=q4 at*;go_wp2_with fail;refine wp_loop_rounds 6 ?_;rw[rounds_succ];have cn0:=B3.K 27 L27;go_wp2_with fail;refine(Q0.out _).mono ?_;rintro _ w4 ⟨rfl,b4⟩;replace HB3:=HB3.trans (vp.zq b4 afu);replace hT3:=hT3.G afu b4;replace B3:=B3.G b4 B3.lt;replace afu:=Nat.le_trans afu b4.size;clear b4 cn0 Q0 L27;go_wp2_with fail;rw[rounds_succ];have cn1:=B3.K 28 L28;go_wp2_with fail;refine(Q1.out _).mono ?_;rintro _ w5 ⟨rfl,b4⟩;replace HB3:=HB3.trans (vp.zq b4 afu);replace hT3:=hT3.G afu b4;replace B3:=B3.G b4 B3.lt;replace afu:=Nat.le_trans afu b4.size;clear b4 cn1 Q1 L28;go_wp2_with fail;rw[rounds_succ];have cn2:=B3.K 29 L29;go_wp2_with fail;refine(Q2.out _).mono ?_;rintro _ w6 ⟨rfl,b4⟩;replace HB3:=HB3.trans (vp.zq b4 afu);replace hT3:=hT3.G afu b4;replace B3:=B3.G b4 B3.lt;replace afu:=Nat.le_trans afu b4.size;clear b4 cn2 Q2 L29;go_wp2_with fail;rw[rounds_succ];have cn3:=B3.K 30 L30;go_wp2_with fail;refine(Q3.out _).mono ?_;rintro _ w7 ⟨rfl,b4⟩;replace HB3:=HB3.trans (vp.zq b4 afu);replace hT3:=hT3.G afu b4;replace B3:=B3.G b4 B3.lt;replace afu:=Nat.le_trans afu b4.size;clear b4 cn3 Q3 L30;go_wp2_with fail;rw[rounds_succ];have cn4:=B3.K 31 L31;go_wp2_with fail;refine(Q4.out _).mono ?_;rintro _ w8 ⟨rfl,b4⟩;replace HB3:=HB3.trans (vp.zq b4 afu);replace hT3:=hT3.G afu b4;replace B3:=B3.G b4 B3.lt;replace afu:=Nat.le_trans afu b4.size;clear b4 cn4 Q4 L31;go_wp2_with fail;rw[rounds_succ];go_wp2_with fail;go_ret2;exact⟨KH bF,hT3,HB3⟩
theorem Pr(lo:Nat)(cs:List Value)(r:RR)(ud:Int)(p:Option Addr)(T:Option Bp)(w0 w:World)(h:xd w0 cs r)(h0:w0.heap.size<=lo)(hb0:al w0 w)(tK:lo<=w.heap.size)(hT:Dp lo w p T)(hf:yQ T 800000)(ha0:0<=ud)(ha1:ud<=1000000):
  Calls prog 114 #[.agg cs.toArray,.int .i64 ud,.pointer p] w (Rg lo p (Gk T ud r) (uk r) (Gl T ud r) w):=by
 have hw:=h.G hb0;by_cases hc:uk r=0
 ·
  unfold Gk Gl;rw[if_pos hc,if_pos hc,hc];have hE:=(Fc hc).2;rcases zr r.E r.N with O|O|O|O|O|O
  ·refine(Gn cs r ud p w hw hc (.inl O)).mono ?_;rintro _ w' ⟨rfl,hB⟩;have e1:yx T ud r=(if uo r.E r.N=1 then r.ad.ip.take 4 else r.ad.ip):=gO;exact pU
  ·refine(Gn cs r ud p w hw hc (.inr O)).mono ?_;rintro _ w' ⟨rfl,hB⟩;have e1:yx T ud r=(if uo r.E r.N=1 then r.ad.ip.take 4 else r.ad.ip):=gO;exact pU
  ·have e1:yx T ud r=uE T ud r.tg:=ky;have e2:DG T ud r=vf T ud r.tg:=kA;have e3:tY r.tg=0:=jD;rw[e1,e2];have:=MH lo cs r ud p T w0 w h h0 hb0 tK hT (fun T' h=>Nat.le_trans (hf T' h) I) hc O;rwa[e3]at this
  ·refine(Pp cs r ud p w hw hc O).mono ?_;rintro _ w' ⟨rfl,hB⟩;have e1:yx T ud r=tT 2 r.pri++tT 2 r.we++tT 2 r.po++yw r.tg:=gO;exact pU
  ·have e1:yx T ud r=uE T ud r.tg++uE (vf T ud r.tg) (ud+(uE T ud r.tg).length) r.ml++r.h1.flatMap (tT 4):=gO;have e2:DG T ud r=vf (vf T ud r.tg) (ud+(uE T ud r.tg).length) r.ml:=gR;rw[e1,e2];exact Pq lo cs r ud p T w0 w h h0 hb0 tK hT hf ha0 ha1 hc O
  ·refine(Po cs r ud p w hw hc O).mono ?_;rintro _ w' ⟨rfl,hB⟩;have e1:yx T ud r=r.raw:=gO;exact pU
 ·unfold Gk Gl;rw[if_neg hc,if_neg hc];refine(Pn cs r ud p w hw hc).mono ?_;rintro _ w' ⟨rfl,hB⟩;exact⟨J,hT.G tK hB,vp.zq hB tK⟩
end Go.Proofs.YthnbcmlnpdabhaaGreat
