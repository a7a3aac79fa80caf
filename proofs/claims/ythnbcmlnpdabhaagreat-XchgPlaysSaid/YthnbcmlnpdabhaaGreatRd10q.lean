/-
  The reference's layer 13:out,bare,Same.
-/
import Derived.Test.YthnbcmlnpdabhaaGreatHSq
namespace Go.Proofs.YthnbcmlnpdabhaaGreat
open _root_.Go.Proofs.Tryz
set_option maxHeartbeats 8000000
open Go.RowKit
set_option maxRecDepth 100000
set_option linter.unusedVariables false
set_option linter.unusedSimpArgs false
theorem vk(n m:Int)(w:World):Calls prog 201 #[.int .i64 n,.int .i64 m] w (xX (.bool (!yo m n)) w):=by
 cases h:yo m n with
 |true=>obtain⟨U,X⟩:=(V8 _ _).1 h;have d1:decide (n<0)=false:=iz;have d2:decide (m<n)=false:=iz;clear h U X;go_enter func201,ntmps201;exact pv
 |false=>
  have h12:=Zq h;clear h;by_cases U:n<0
  ·have d1:decide (n<0)=true:=ly;clear h12 U;go_enter func201,ntmps201;exact pv
  ·have d1:decide (n<0)=false:=kW;have d2:decide (m<n)=true:=mM;clear h12 U;go_enter func201,ntmps201;exact pv
def vC(r:RR):RR:={RR.zero with name:=r.name,O:=r.O,N:=r.N,ak:=r.ak}
theorem ZH(A:Option Addr)(n c:Nat)(r:RR)(W:World):(Instr.build 119 #[(0,.slice A n c),(1,.int .i64 r.O),(2,.int .i64 r.N),(3,.int .i64 r.ak)]).run prog W= .ok (.agg (vX (.slice A n c) uz uz (vC r)).toArray) W:=by
 kernel_rfl
theorem DQ(A:Option Addr)(n c:Nat)(vt vm:Value)(r:RR)(hr:r.wf)(w:World):
  Calls prog 202 #[.agg (vX (.slice A n c) vt vm r).toArray] w (uI (.agg (vX (.slice A n c) uz uz (vC r)).toArray) w):=by
 have hl:=vA (vn:=.slice A n c) (vt:=vt) (vm:=vm) hr;have L0:=aeW (vn:=.slice A n c) (vt:=vt) (vm:=vm) (r:=r);have L1:=Lr (vn:=.slice A n c) (vt:=vt) (vm:=vm) (r:=r);have L2:=Ls (vn:=.slice A n c) (vt:=vt) (vm:=vm) (r:=r);have L3:=aeX (vn:=.slice A n c) (vt:=vt) (vm:=vm) (r:=r);have RL:=vA (vn:=.slice A n c) (vt:=uz) (vm:=uz) (r:=vC r) ⟨J,J⟩;have R1:=Y (wR (vn:=.slice A n c) (r:=vC r) J (vt:=uz) (vm:=uz) J J);have RB:=ZH A n c r;have g0:∀hi:0<(vX (.slice A n c) vt vm r).length,(vX (.slice A n c) vt vm r)[0]'hi= .slice A n c:=xO L0;have g1:∀hi:1<(vX (.slice A n c) vt vm r).length,(vX (.slice A n c) vt vm r)[1]'hi= .int .i64 r.O:=xO L1;have g2:∀hi:2<(vX (.slice A n c) vt vm r).length,(vX (.slice A n c) vt vm r)[2]'hi= .int .i64 r.N:=xO L2;have g3:∀hi:3<(vX (.slice A n c) vt vm r).length,(vX (.slice A n c) vt vm r)[3]'hi= .int .i64 r.ak:=xO L3;clear L0 L1 L2 L3;generalize vX (.slice A n c) uz uz (vC r)=L4 at*;generalize vX (.slice A n c) vt vm r=L at*;generalize r.O=O,r.N=N,r.ak=ak at*;go_enter func202,ntmps202;go_wp2_with(first
  |(refine ur (.build 119 #[(0,.tmp 4),(1,.tmp 6),(2,.tmp 8),(3,.tmp 10)]) rfl ?_;go_must(refine wi rfl 119 _ rfl #[(0,.slice A n c),(1,.int .i64 O),(2,.int .i64 N),(3,.int .i64 ak)] (by simp[Act.eval,g0,g1,g2,g3]) (RB _) ?_))
  |(refine ur (.store 119 (.tmp 2) (.tmp 11)) rfl (ab rfl (w.heap.size+1) 0 L4 (F.wE _ _ wm _ ap) bj (by rw[RL];exact uU) R1.out ?_)))
 intro w3 hb3 hg3 hs3;have HB:al w w3:=uq (((Below.refl _ _).alloc (Nat.le_refl _) _).alloc ap _) hg3 aA I;rw[List.drop_of_length_le bj,List.append_nil]at hb3;go_wp2_with fail;refine xd J (w.heap.size+1) J hb3 _ underlying119 J (by first|(rw[RL];exact uU)|(simp[RL];exact uU)) J ?_;exact uI.mk J HB
theorem Sf(a b:RR):decide (a=b)=(decide (a.name=b.name)&&((a.O==b.O)&&((a.N==b.N)&&((a.ak==b.ak)&&(decide (a.ad=b.ad)&&(decide (a.tg=b.tg)&&(decide (a.ml=b.ml)&&((a.pri==b.pri)&&((a.we==b.we)&&((a.po==b.po)&&((a.Hh==b.Hh)&&(a.raw==b.raw)))))))))))):=by
 rw[Bool.eq_iff_iff];obtain⟨a0,a1,a2,a3,a4,a5,a6,a7,a8,a9,a10,a11⟩:=a;obtain⟨b0,b1,b2,b3,b4,b5,b6,b7,b8,b9,b10,b11⟩:=b;simp
theorem abS(a b:List Int)(ha:a.length=5)(Z:b.length=5)(w:World):(Op.equalIn 10000 117 (.agg (vi a).toArray) (.agg (vi b).toArray)).run prog w= .ok (a==b) w:=
 zk w 9998 117 3 5 .i64 underlying117 underlying3 Rn a b ha Z
theorem zJ(cs ds:List Value)(a b:RR)(w:World)(ha:xJ w cs a)(Z:xJ w ds b):Calls prog 124 #[.agg cs.toArray,.agg ds.toArray] w (uI (.bool (decide (a=b))) w):=by
 rw[Sf];obtain⟨An,cn,At,ct,Am,cm,hS,hr,hN,hT,hM,agn⟩:=ha;obtain⟨Bn,dn,Bt,dt,Bm,dm,hds,hs,kN,kT,kM,axg⟩:=Z;have hl:cs.length=33:=iY;have z:ds.length=33:=by rw[hds];exact vA hs
 have A0:Hid (cs[0]?=some (.slice An a.name.length cn)):=Y bI;have A1:Hid (cs[1]?=some (.int .i64 a.O)):=Y bI;have A2:Hid (cs[2]?=some (.int .i64 a.N)):=Y bI;have A3:Hid (cs[3]?=some (.int .i64 a.ak)):=Y bI;have A22:Hid (cs[22]?=some (.slice At a.tg.length ct)):=Y (by rw[hS];exact BS hr);have A23:Hid (cs[23]?=some (.slice Am a.ml.length cm)):=Y (by rw[hS];exact I7 hr);have A24:Hid (cs[24]?=some (.int .i64 a.pri)):=Y (by rw[hS];exact I8 hr);have A25:Hid (cs[25]?=some (.int .i64 a.we)):=Y (by rw[hS];exact I9 hr);have A26:Hid (cs[26]?=some (.int .i64 a.po)):=Y (by rw[hS];exact Jb hr);have A32:Hid (cs[32]?=some (.string (bs a.raw))):=Y (by rw[hS];exact Jc hr);have LAa:Hid ((cs.drop 4).take 18=a.ad.cells):=Y (by rw[hS];exact CG hr);have LNa:Hid ((cs.drop 27).take 5=vi a.Hh):=Y bE;have E0:Hid (ds[0]?=some (.slice Bn b.name.length dn)):=Y bJ;have E1:Hid (ds[1]?=some (.int .i64 b.O)):=Y bJ;have E2:Hid (ds[2]?=some (.int .i64 b.N)):=Y bJ;have E3:Hid (ds[3]?=some (.int .i64 b.ak)):=Y bJ;have E22:Hid (ds[22]?=some (.slice Bt b.tg.length dt)):=Y (by rw[hds];exact BS hs);have E23:Hid (ds[23]?=some (.slice Bm b.ml.length dm)):=Y (by rw[hds];exact I7 hs);have E24:Hid (ds[24]?=some (.int .i64 b.pri)):=Y (by rw[hds];exact I8 hs);have E25:Hid (ds[25]?=some (.int .i64 b.we)):=Y (by rw[hds];exact I9 hs);have E26:Hid (ds[26]?=some (.int .i64 b.po)):=Y (by rw[hds];exact Jb hs);have E32:Hid (ds[32]?=some (.string (bs b.raw))):=Y (by rw[hds];exact Jc hs);have LAb:Hid ((ds.drop 4).take 18=b.ad.cells):=Y (by rw[hds];exact CG hs);have LNb:Hid ((ds.drop 27).take 5=vi b.Hh):=Y (by rw[hds];exact Fh hs);clear hS hds agn axg;have EA:=FL a.ad b.ad hr.1 hs.1;have EN:=abS a.Hh b.Hh hr.2 hs.2;have X1:=Y (fun w' (q:al w w')=>AV An Bn a.name b.name cn dn w' (hN.G q).1 (kN.G q).1 bB (by have:=kN.2.2.1;omega));have X2:=Y (fun w' (q:al w w')=>AV At Bt a.tg b.tg ct dt w' (hT.G q).1 (kT.G q).1 (by have:=hT.2.2.1;omega) (by have:=kT.2.2.1;omega));have X3:=Y (fun w' (q:al w w')=>AV Am Bm a.ml b.ml cm dm w' (hM.G q).1 (kM.G q).1 (by have:=hM.2.2.1;omega) (by have:=kM.2.2.1;omega));clear hN hT hM kN kT kM hr hs;generalize decide (a.name=b.name)=q0 at*;generalize decide (a.ad=b.ad)=q4 at*;generalize decide (a.tg=b.tg)=q5 at*;generalize decide (a.ml=b.ml)=q6 at*;generalize a.ad.cells=LA1,b.ad.cells=LA2 at*;generalize(a.Hh==b.Hh)=q10 at*;generalize vi a.Hh=LN1 at*;generalize vi b.Hh=LN2 at*;generalize a.name.length=n1,b.name.length=m1 at*;generalize a.tg.length=n2,b.tg.length=m2 at*;generalize a.ml.length=n3,b.ml.length=m3 at*;obtain⟨q1,U⟩:∃q,Hid ((a.O==b.O)=q):=gP;obtain⟨q2,X⟩:∃q,Hid ((a.N==b.N)=q):=gP;obtain⟨q3,h3⟩:∃q,Hid ((a.ak==b.ak)=q):=gP;obtain⟨q7,h7⟩:∃q,Hid ((a.pri==b.pri)=q):=gP;obtain⟨q8,h8⟩:∃q,Hid ((a.we==b.we)=q):=gP;obtain⟨q9,h9⟩:∃q,Hid ((a.po==b.po)=q):=gP;obtain⟨q11,h11⟩:∃q,Hid ((a.raw==b.raw)=q):=gP;rw[U.out,X.out,h3.out,h7.out,h8.out,h9.out,h11.out];generalize a.O=aty,b.O=bty at*;generalize a.N=acl,b.N=bcl at*;generalize a.ak=aH8,b.ak=aH3 at*;generalize a.pri=aIa,b.pri=aH5 at*;generalize a.we=awe,b.we=bwe at*;generalize a.po=apo,b.po=bpo at*;generalize a.raw=aH9,b.raw=aH4 at*;have HB0:Below w.heap.size w ((w.alloc (.cells cs.toArray 119)).alloc (.cells ds.toArray 119)):=gJ;have B1':=(F.new w 119 cs).alloc (.cells ds.toArray 119);have B2':=F.wE (w.alloc (.cells cs.toArray 119)) 119 ds (w.heap.size+1) ap;have u0:=B1'.M 0 A0.out;have v0:=B2'.M 0 E0.out;clear A0 E0;go_enter func124,ntmps124;simp only[List.append];go_wp2_with fail;refine(X1.out _ HB0).mono ?_;rintro _ w1 ⟨rfl,b1⟩;have B1:=B1'.G b1 B1'.lt;have B2:=B2'.G b1 B2'.lt;have HB:=um HB0 HB0.size b1;clear X1 B1' B2' HB0 b1 u0 v0;cases q0 with
 |false=>exact pg
 |true=>
 have a1:=B1.M 1 A1.out;have b1:=B2.M 1 E1.out;have k1:=U.out;cases q1 with
 |false=>exact pg
 |true=>
 have a2:=B1.M 2 A2.out;have b2:=B2.M 2 E2.out;have k2:=X.out;cases q2 with
 |false=>exact pg
 |true=>
 have a3:=B1.M 3 A3.out;have b3:=B2.M 3 E3.out;have k3:=h3.out;cases q3 with
 |false=>exact pg
 |true=>
 cases q4 with
 |false=>
  go_wp2_with(first
   |(refine ur (.load 24 (.tmp 32)) rfl ?_;refine u6 (by kernel_rfl) 24 (.tmp 32) rfl w.heap.size 4 rfl B1 18 I _ underlying24 rfl wD LA1 LAa.out ?_)
   |(refine ur (.load 24 (.tmp 34)) rfl ?_;refine u6 (by kernel_rfl) 24 (.tmp 34) rfl (w.heap.size+1) 4 rfl B2 18 I _ underlying24 rfl wD LA2 LAb.out ?_))
  exact pu
 |true=>
 have a22:=B1.M 22 A22.out;have b22:=B2.M 22 E22.out;go_wp2_with(first
  |(refine ur (.load 24 (.tmp 32)) rfl ?_;refine u6 (by kernel_rfl) 24 (.tmp 32) rfl w.heap.size 4 rfl B1 18 I _ underlying24 rfl wD LA1 LAa.out ?_)
  |(refine ur (.load 24 (.tmp 34)) rfl ?_;refine u6 (by kernel_rfl) 24 (.tmp 34) rfl (w.heap.size+1) 4 rfl B2 18 I _ underlying24 rfl wD LA2 LAb.out ?_))
 refine(X2.out _ HB).mono ?_;rintro _ w2 ⟨rfl,c2⟩;clear a1 b1 k1 a2 b2 k2 a3 b3 k3 EA a22 b22 X2;replace B1:=B1.G c2 B1.lt;replace B2:=B2.G c2 B2.lt;replace HB:=um HB HB.size c2;clear c2;cases q5 with
 |false=>exact pg
 |true=>
 have a23:=B1.M 23 A23.out;have b23:=B2.M 23 E23.out;go_wp2_with fail;refine(X3.out _ HB).mono ?_;rintro _ w3 ⟨rfl,c3⟩;clear a23 b23 X3;replace B1:=B1.G c3 B1.lt;replace B2:=B2.G c3 B2.lt;replace HB:=um HB HB.size c3;clear c3;cases q6 with
 |false=>exact pg
 |true=>
 have a24:=B1.M 24 A24.out;have b24:=B2.M 24 E24.out;have k7:=h7.out;cases q7 with
 |false=>exact pg
 |true=>
 have a25:=B1.M 25 A25.out;have b25:=B2.M 25 E25.out;have k8:=h8.out;cases q8 with
 |false=>exact pg
 |true=>
 have a26:=B1.M 26 A26.out;have b26:=B2.M 26 E26.out;have k9:=h9.out;cases q9 with
 |false=>exact pg
 |true=>
 cases q10 with
 |false=>
  go_wp2_with(first
   |(refine ur (.load 117 (.tmp 74)) rfl ?_;refine u6 (by kernel_rfl) 117 (.tmp 74) rfl w.heap.size 27 rfl B1 5 I _ underlying117 rfl xf LN1 LNa.out ?_)
   |(refine ur (.load 117 (.tmp 76)) rfl ?_;refine u6 (by kernel_rfl) 117 (.tmp 76) rfl (w.heap.size+1) 27 rfl B2 5 I _ underlying117 rfl xf LN2 LNb.out ?_))
  exact pu
 |true=>
 have a32:=B1.M 32 A32.out;have b32:=B2.M 32 E32.out;have k11:=h11.out;cases q11 with
 |false=>
  go_wp2_with(first
   |(refine ur (.load 117 (.tmp 74)) rfl ?_;refine u6 (by kernel_rfl) 117 (.tmp 74) rfl w.heap.size 27 rfl B1 5 I _ underlying117 rfl xf LN1 LNa.out ?_)
   |(refine ur (.load 117 (.tmp 76)) rfl ?_;refine u6 (by kernel_rfl) 117 (.tmp 76) rfl (w.heap.size+1) 27 rfl B2 5 I _ underlying117 rfl xf LN2 LNb.out ?_))
  exact pu
 |true=>
  go_wp2_with(first
   |(refine ur (.load 117 (.tmp 74)) rfl ?_;refine u6 (by kernel_rfl) 117 (.tmp 74) rfl w.heap.size 27 rfl B1 5 I _ underlying117 rfl xf LN1 LNa.out ?_)
   |(refine ur (.load 117 (.tmp 76)) rfl ?_;refine u6 (by kernel_rfl) 117 (.tmp 76) rfl (w.heap.size+1) 27 rfl B2 5 I _ underlying117 rfl xf LN2 LNb.out ?_))
  exact pu
end Go.Proofs.YthnbcmlnpdabhaaGreat
