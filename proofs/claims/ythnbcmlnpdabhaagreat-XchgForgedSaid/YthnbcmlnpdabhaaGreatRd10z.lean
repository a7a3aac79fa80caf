/-
  The reference's layer 13:out,bare,Same.
-/
import Derived.Test.YthnbcmlnpdabhaaGreatHSz
namespace Go.Proofs.YthnbcmlnpdabhaaGreat
open _root_.Go.Proofs.Tryz
set_option maxHeartbeats 8000000
open Go.RowKit
set_option maxRecDepth 100000
set_option linter.unusedVariables false
set_option linter.unusedSimpArgs false
theorem uI(n m:Int)(w:World):Calls prog 201 #[.int .i64 n,.int .i64 m] w (yi (.bool (!xN m n)) w):=by
 cases h:xN m n with
 |true=>obtain⟨U,X⟩:=(Vc _ _).1 h;have d1:decide (n<0)=false:=ik;have d2:decide (m<n)=false:=ik;clear h U X;go_enter func201,ntmps201;exact oU
 |false=>
  have h12:=YA h;clear h;by_cases U:n<0
  ·have d1:decide (n<0)=true:=kR;clear h12 U;go_enter func201,ntmps201;exact oU
  ·have d1:decide (n<0)=false:=kD;have d2:decide (m<n)=true:=mw;clear h12 U;go_enter func201,ntmps201;exact oU
def uR(r:RR):RR:={RR.zero with name:=r.name,E:=r.E,N:=r.N,ak:=r.ak}
theorem YQ(A:Option Addr)(n c:Nat)(r:RR)(W:World):(Instr.build 119 #[(0,.slice A n c),(1,.int .i64 r.E),(2,.int .i64 r.N),(3,.int .i64 r.ak)]).run prog W= .ok (.agg (vy (.slice A n c) tS tS (uR r)).toArray) W:=by
 kernel_rfl
theorem Dg(A:Option Addr)(n c:Nat)(vt vm:Value)(r:RR)(hr:r.wf)(w:World):
  Calls prog 202 #[.agg (vy (.slice A n c) vt vm r).toArray] w (uf (.agg (vy (.slice A n c) tS tS (uR r)).toArray) w):=by
 have hl:=uP (vn:=.slice A n c) (vt:=vt) (vm:=vm) hr;have L0:=ad9 (vn:=.slice A n c) (vt:=vt) (vm:=vm) (r:=r);have L1:=KL (vn:=.slice A n c) (vt:=vt) (vm:=vm) (r:=r);have L2:=KM (vn:=.slice A n c) (vt:=vt) (vm:=vm) (r:=r);have L3:=aea (vn:=.slice A n c) (vt:=vt) (vm:=vm) (r:=r);have RL:=uP (vn:=.slice A n c) (vt:=tS) (vm:=tS) (r:=uR r) ⟨J,J⟩;have R1:=Y (wj (vn:=.slice A n c) (r:=uR r) J (vt:=tS) (vm:=tS) J J);have RB:=YQ A n c r;have g0:∀hi:0<(vy (.slice A n c) vt vm r).length,(vy (.slice A n c) vt vm r)[0]'hi= .slice A n c:=xp L0;have g1:∀hi:1<(vy (.slice A n c) vt vm r).length,(vy (.slice A n c) vt vm r)[1]'hi= .int .i64 r.E:=xp L1;have g2:∀hi:2<(vy (.slice A n c) vt vm r).length,(vy (.slice A n c) vt vm r)[2]'hi= .int .i64 r.N:=xp L2;have g3:∀hi:3<(vy (.slice A n c) vt vm r).length,(vy (.slice A n c) vt vm r)[3]'hi= .int .i64 r.ak:=xp L3;clear L0 L1 L2 L3;generalize vy (.slice A n c) tS tS (uR r)=L4 at*;generalize vy (.slice A n c) vt vm r=L at*;generalize r.E=E,r.N=N,r.ak=ak at*;go_enter func202,ntmps202;go_wp2_with(first
  |(refine tO (.build 119 #[(0,.tmp 4),(1,.tmp 6),(2,.tmp 8),(3,.tmp 10)]) rfl ?_;go_must(refine wl rfl 119 _ rfl #[(0,.slice A n c),(1,.int .i64 E),(2,.int .i64 N),(3,.int .i64 ak)] (by simp[Act.eval,g0,g1,g2,g3]) (RB _) ?_))
  |(refine tO (.store 119 (.tmp 2) (.tmp 11)) rfl (ab rfl (w.heap.size+1) 0 L4 (Z.vP _ _ vG _ ap) bi (by rw[RL];exact uu) R1.out ?_)))
 intro w3 hb3 hg3 hs3;have HB:al w w3:=tN (((Below.refl _ _).alloc (Nat.le_refl _) _).alloc ap _) hg3 az I;rw[List.drop_of_length_le bi,List.append_nil]at hb3;go_wp2_with fail;refine wQ J (w.heap.size+1) J hb3 _ underlying119 J (by first|(rw[RL];exact uu)|(simp[RL];exact uu)) J ?_;exact uf.mk J HB
theorem Qx(a b:RR):decide (a=b)=(decide (a.name=b.name)&&((a.E==b.E)&&((a.N==b.N)&&((a.ak==b.ak)&&(decide (a.ad=b.ad)&&(decide (a.tg=b.tg)&&(decide (a.ml=b.ml)&&((a.pri==b.pri)&&((a.we==b.we)&&((a.po==b.po)&&((a.h1==b.h1)&&(a.raw==b.raw)))))))))))):=by
 rw[Bool.eq_iff_iff];obtain⟨a0,a1,a2,a3,a4,a5,a6,a7,a8,a9,a10,a11⟩:=a;obtain⟨b0,b1,b2,b3,b4,b5,b6,b7,b8,b9,b10,b11⟩:=b;simp
theorem aa3(a b:List Int)(ha:a.length=5)(F:b.length=5)(w:World):(Op.equalIn 10000 117 (.agg (uF a).toArray) (.agg (uF b).toArray)).run prog w= .ok (a==b) w:=
 yP w 9998 117 3 5 .i64 underlying117 underlying3 Qi a b ha F
theorem zf(cs ds:List Value)(a b:RR)(w:World)(ha:xd w cs a)(F:xd w ds b):Calls prog 124 #[.agg cs.toArray,.agg ds.toArray] w (uf (.bool (decide (a=b))) w):=by
 rw[Qx];obtain⟨An,cn,At,ct,Am,cm,hcs,hr,hN,hT,hM,afB⟩:=ha;obtain⟨Bn,dn,Bt,dt,Bm,dm,hds,hs,kN,kT,kM,awd⟩:=F;have hl:cs.length=33:=iQ;have O:ds.length=33:=by rw[hds];exact uP hs
 have A0:Hid (cs[0]?=some (.slice An a.name.length cn)):=Y bI;have A1:Hid (cs[1]?=some (.int .i64 a.E)):=Y bI;have A2:Hid (cs[2]?=some (.int .i64 a.N)):=Y bI;have A3:Hid (cs[3]?=some (.int .i64 a.ak)):=Y bI;have A22:Hid (cs[22]?=some (.slice At a.tg.length ct)):=Y (by rw[hcs];exact AQ hr);have A23:Hid (cs[23]?=some (.slice Am a.ml.length cm)):=Y (by rw[hcs];exact Iu hr);have A24:Hid (cs[24]?=some (.int .i64 a.pri)):=Y (by rw[hcs];exact Iv hr);have A25:Hid (cs[25]?=some (.int .i64 a.we)):=Y (by rw[hcs];exact Iw hr);have A26:Hid (cs[26]?=some (.int .i64 a.po)):=Y (by rw[hcs];exact Ix hr);have A32:Hid (cs[32]?=some (.string (bs a.raw))):=Y (by rw[hcs];exact Iy hr);have LAa:Hid ((cs.drop 4).take 18=a.ad.cells):=Y (by rw[hcs];exact Cd hr);have LNa:Hid ((cs.drop 27).take 5=uF a.h1):=Y bE;have E0:Hid (ds[0]?=some (.slice Bn b.name.length dn)):=Y bJ;have E1:Hid (ds[1]?=some (.int .i64 b.E)):=Y bJ;have E2:Hid (ds[2]?=some (.int .i64 b.N)):=Y bJ;have E3:Hid (ds[3]?=some (.int .i64 b.ak)):=Y bJ;have E22:Hid (ds[22]?=some (.slice Bt b.tg.length dt)):=Y (by rw[hds];exact AQ hs);have E23:Hid (ds[23]?=some (.slice Bm b.ml.length dm)):=Y (by rw[hds];exact Iu hs);have E24:Hid (ds[24]?=some (.int .i64 b.pri)):=Y (by rw[hds];exact Iv hs);have E25:Hid (ds[25]?=some (.int .i64 b.we)):=Y (by rw[hds];exact Iw hs);have E26:Hid (ds[26]?=some (.int .i64 b.po)):=Y (by rw[hds];exact Ix hs);have E32:Hid (ds[32]?=some (.string (bs b.raw))):=Y (by rw[hds];exact Iy hs);have LAb:Hid ((ds.drop 4).take 18=b.ad.cells):=Y (by rw[hds];exact Cd hs);have LNb:Hid ((ds.drop 27).take 5=uF b.h1):=Y (by rw[hds];exact Ep hs);clear hcs hds afB awd;have EA:=Hf a.ad b.ad hr.1 hs.1;have EN:=aa3 a.h1 b.h1 hr.2 hs.2;have X1:=Y (fun w' (q:al w w')=>zY An Bn a.name b.name cn dn w' (hN.G q).1 (kN.G q).1 bu (by have:=kN.2.2.1;omega));have X2:=Y (fun w' (q:al w w')=>zY At Bt a.tg b.tg ct dt w' (hT.G q).1 (kT.G q).1 (by have:=hT.2.2.1;omega) (by have:=kT.2.2.1;omega));have X3:=Y (fun w' (q:al w w')=>zY Am Bm a.ml b.ml cm dm w' (hM.G q).1 (kM.G q).1 (by have:=hM.2.2.1;omega) (by have:=kM.2.2.1;omega));clear hN hT hM kN kT kM hr hs;generalize decide (a.name=b.name)=q0 at*;generalize decide (a.ad=b.ad)=q4 at*;generalize decide (a.tg=b.tg)=q5 at*;generalize decide (a.ml=b.ml)=q6 at*;generalize a.ad.cells=LA1,b.ad.cells=LA2 at*;generalize(a.h1==b.h1)=q10 at*;generalize uF a.h1=LN1 at*;generalize uF b.h1=LN2 at*;generalize a.name.length=n1,b.name.length=m1 at*;generalize a.tg.length=n2,b.tg.length=m2 at*;generalize a.ml.length=n3,b.ml.length=m3 at*;obtain⟨q1,U⟩:∃q,Hid ((a.E==b.E)=q):=gG;obtain⟨q2,X⟩:∃q,Hid ((a.N==b.N)=q):=gG;obtain⟨q3,h3⟩:∃q,Hid ((a.ak==b.ak)=q):=gG;obtain⟨q7,h7⟩:∃q,Hid ((a.pri==b.pri)=q):=gG;obtain⟨q8,h8⟩:∃q,Hid ((a.we==b.we)=q):=gG;obtain⟨q9,h9⟩:∃q,Hid ((a.po==b.po)=q):=gG;obtain⟨q11,h11⟩:∃q,Hid ((a.raw==b.raw)=q):=gG;rw[U.out,X.out,h3.out,h7.out,h8.out,h9.out,h11.out];generalize a.E=aty,b.E=bty at*;generalize a.N=acl,b.N=bcl at*;generalize a.ak=aG4,b.ak=aGZ at*;generalize a.pri=aG6,b.pri=aG1 at*;generalize a.we=awe,b.we=bwe at*;generalize a.po=apo,b.po=bpo at*;generalize a.raw=aG5,b.raw=aG0 at*;have HB0:Below w.heap.size w ((w.alloc (.cells cs.toArray 119)).alloc (.cells ds.toArray 119)):=gA;have B1':=(Z.new w 119 cs).alloc (.cells ds.toArray 119);have B2':=Z.vP (w.alloc (.cells cs.toArray 119)) 119 ds (w.heap.size+1) ap;have u0:=B1'.K 0 A0.out;have v0:=B2'.K 0 E0.out;clear A0 E0;go_enter func124,ntmps124;simp only[List.append];go_wp2_with fail;refine(X1.out _ HB0).mono ?_;rintro _ w1 ⟨rfl,b1⟩;have B1:=B1'.G b1 B1'.lt;have B2:=B2'.G b1 B2'.lt;have HB:=tL HB0 HB0.size b1;clear X1 B1' B2' HB0 b1 u0 v0;cases q0 with
 |false=>exact oH
 |true=>
 have a1:=B1.K 1 A1.out;have b1:=B2.K 1 E1.out;have k1:=U.out;cases q1 with
 |false=>exact oH
 |true=>
 have a2:=B1.K 2 A2.out;have b2:=B2.K 2 E2.out;have k2:=X.out;cases q2 with
 |false=>exact oH
 |true=>
 have a3:=B1.K 3 A3.out;have b3:=B2.K 3 E3.out;have k3:=h3.out;cases q3 with
 |false=>exact oH
 |true=>
 cases q4 with
 |false=>
  go_wp2_with(first
   |(refine tO (.load 24 (.tmp 32)) rfl ?_;refine uC (by kernel_rfl) 24 (.tmp 32) rfl w.heap.size 4 rfl B1 18 I _ underlying24 rfl vR LA1 LAa.out ?_)
   |(refine tO (.load 24 (.tmp 34)) rfl ?_;refine uC (by kernel_rfl) 24 (.tmp 34) rfl (w.heap.size+1) 4 rfl B2 18 I _ underlying24 rfl vR LA2 LAb.out ?_))
  exact oT
 |true=>
 have a22:=B1.K 22 A22.out;have b22:=B2.K 22 E22.out;go_wp2_with(first
  |(refine tO (.load 24 (.tmp 32)) rfl ?_;refine uC (by kernel_rfl) 24 (.tmp 32) rfl w.heap.size 4 rfl B1 18 I _ underlying24 rfl vR LA1 LAa.out ?_)
  |(refine tO (.load 24 (.tmp 34)) rfl ?_;refine uC (by kernel_rfl) 24 (.tmp 34) rfl (w.heap.size+1) 4 rfl B2 18 I _ underlying24 rfl vR LA2 LAb.out ?_))
 refine(X2.out _ HB).mono ?_;rintro _ w2 ⟨rfl,c2⟩;clear a1 b1 k1 a2 b2 k2 a3 b3 k3 EA a22 b22 X2;replace B1:=B1.G c2 B1.lt;replace B2:=B2.G c2 B2.lt;replace HB:=tL HB HB.size c2;clear c2;cases q5 with
 |false=>exact oH
 |true=>
 have a23:=B1.K 23 A23.out;have b23:=B2.K 23 E23.out;go_wp2_with fail;refine(X3.out _ HB).mono ?_;rintro _ w3 ⟨rfl,c3⟩;clear a23 b23 X3;replace B1:=B1.G c3 B1.lt;replace B2:=B2.G c3 B2.lt;replace HB:=tL HB HB.size c3;clear c3;cases q6 with
 |false=>exact oH
 |true=>
 have a24:=B1.K 24 A24.out;have b24:=B2.K 24 E24.out;have k7:=h7.out;cases q7 with
 |false=>exact oH
 |true=>
 have a25:=B1.K 25 A25.out;have b25:=B2.K 25 E25.out;have k8:=h8.out;cases q8 with
 |false=>exact oH
 |true=>
 have a26:=B1.K 26 A26.out;have b26:=B2.K 26 E26.out;have k9:=h9.out;cases q9 with
 |false=>exact oH
 |true=>
 cases q10 with
 |false=>
  go_wp2_with(first
   |(refine tO (.load 117 (.tmp 74)) rfl ?_;refine uC (by kernel_rfl) 117 (.tmp 74) rfl w.heap.size 27 rfl B1 5 I _ underlying117 rfl wE LN1 LNa.out ?_)
   |(refine tO (.load 117 (.tmp 76)) rfl ?_;refine uC (by kernel_rfl) 117 (.tmp 76) rfl (w.heap.size+1) 27 rfl B2 5 I _ underlying117 rfl wE LN2 LNb.out ?_))
  exact oT
 |true=>
 have a32:=B1.K 32 A32.out;have b32:=B2.K 32 E32.out;have k11:=h11.out;cases q11 with
 |false=>
  go_wp2_with(first
   |(refine tO (.load 117 (.tmp 74)) rfl ?_;refine uC (by kernel_rfl) 117 (.tmp 74) rfl w.heap.size 27 rfl B1 5 I _ underlying117 rfl wE LN1 LNa.out ?_)
   |(refine tO (.load 117 (.tmp 76)) rfl ?_;refine uC (by kernel_rfl) 117 (.tmp 76) rfl (w.heap.size+1) 27 rfl B2 5 I _ underlying117 rfl wE LN2 LNb.out ?_))
  exact oT
 |true=>
  go_wp2_with(first
   |(refine tO (.load 117 (.tmp 74)) rfl ?_;refine uC (by kernel_rfl) 117 (.tmp 74) rfl w.heap.size 27 rfl B1 5 I _ underlying117 rfl wE LN1 LNa.out ?_)
   |(refine tO (.load 117 (.tmp 76)) rfl ?_;refine uC (by kernel_rfl) 117 (.tmp 76) rfl (w.heap.size+1) 27 rfl B2 5 I _ underlying117 rfl wE LN2 LNb.out ?_))
  exact oT
end Go.Proofs.YthnbcmlnpdabhaaGreat
