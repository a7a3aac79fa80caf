/-
  Layer 13 (rdata):has,an SOA;has of any record.
-/
import Derived.Test.YthnbcmlnpdabhaaGreatHRq
namespace Go.Proofs.YthnbcmlnpdabhaaGreat
open _root_.Go.Proofs.Tryz
set_option maxHeartbeats 8000000
open Go.RowKit
set_option maxRecDepth 100000
set_option linter.unusedVariables false
set_option linter.unusedSimpArgs false
variable {lo g:Nat} {w' w1:World} {t:TypeId}
theorem ae2(vn:Value)(At Am:Option Addr)(ct cm:Nat)(r:RR)(hr:r.wf)(hn:vn.oneCell'=true)(w:World)(hT:xE w At ct r.tg)(hM:xE w Am cm r.ml)(z:uQ r.O r.N=6):
  Calls prog 235 #[.agg (vX vn (.slice At r.tg.length ct) (.slice Am r.ml.length cm) r).toArray] w (uI (.tuple #[.agg (vX vn uz uz {r with tg:=[],ml:=[],Hh:=[0,0,0,0,0]}).toArray,.int .i64 (if zI [r.tg,r.ml]≠0 then zI [r.tg,r.ml]else if r.Hh.all (yo 4294967295)then 0 else 4)]) w):=by
 obtain⟨vt,hvt⟩:∃v,v=Value.slice At r.tg.length ct:=gG;have ht:vt.oneCell'=true:=oj;obtain⟨vm,hvm⟩:∃v,v=Value.slice Am r.ml.length cm:=gG;have hm:vm.oneCell'=true:=by rw[hvm];rfl
 rw[<-hvt,<-hvm];have HVT:=Y hvt;have HVM:=Y hvm;clear hvt hvm;have hl:=vA (vn:=vn) (vt:=vt) (vm:=vm) hr;have L1?:=Lr (vn:=vn) (vt:=vt) (vm:=vm) (r:=r);have L2?:=Ls (vn:=vn) (vt:=vt) (vm:=vm) (r:=r);have L22:=BS (vn:=vn) (vt:=vt) (vm:=vm) hr;have L23:=I7 (vn:=vn) (vt:=vt) (vm:=vm) hr;have LN:=Y (Fh (vn:=vn) (vt:=vt) (vm:=vm) hr);have LZ:Hid (((vX vn vt vm r).set 22 uz).set 23 uz=vX vn uz uz r):=Y (by rw[Cn hr,N7 hr]);have LS:=Y (JP (vn:=vn) (vt:=uz) (vm:=uz) hr [0,0,0,0,0] J);change Hid (_=vX vn uz uz {r with tg:=[],ml:=[],Hh:=[0,0,0,0,0]})at LS;have Lzl:=vA (vn:=vn) (vt:=uz) (vm:=uz) hr;have L1c:=Y (wR (r:=r) hn ht hm);have L4c:=Y (wR (vt:=uz) (vm:=uz) (r:={r with tg:=[],ml:=[],Hh:=[0,0,0,0,0]}) hn J J);have L4l:=vA (vn:=vn) (vt:=uz) (vm:=uz) (r:={r with tg:=[],ml:=[],Hh:=[0,0,0,0,0]}) ⟨hr.1,J⟩;have hb:=Y (fun w=>wB r.O r.N w);rw[z]at hb;have AN:=Y (fun w A h=>Hj A 2 [r.tg,r.ml] w h ap);have WI:=Y (fun w A h=>Dj 4294967295 A 5 r.Hh w h (by rw[hr.2];decide));have hn5:=hr.2;generalize vX vn uz uz {r with tg:=[],ml:=[],Hh:=[0,0,0,0,0]}=L4 at*;generalize vX vn uz uz r=Lz at*;generalize vX vn vt vm r=L at*;generalize zI [r.tg,r.ml]=e at*;generalize hB3:r.Hh.all (yo 4294967295)=b3 at*;clear hB3;generalize r.Hh=Hh,r.O=O,r.N=N at*;clear z;generalize ajv:(if e≠0 then e else if b3=true then 0 else 4)=res;have agI:=Y ajv;clear ajv;have B0:=F.new w 119 L;go_enter func235,ntmps235;go_wp2_with(first
  |(refine ur (.load 119 (.tmp 1)) rfl ?_;go_must(refine uu rfl _ _ rfl w.heap.size 0 rfl (F.alloc (F.new w 119 L) _) 33 I _ underlying119 rfl uU L (wP I) ?_))
  |(refine ur (.store 119 (.tmp 4) (.tmp 6)) rfl (ab rfl (w.heap.size+1+1) 0 L (F.wE _ _ wm _ ap) bj bm L1c.out ?_)))
 intro w3 hb3 hg3 hs3;have B1:F w3 w.heap.size 119 L:=iC;have B2:F w3 (w.heap.size+1) 119 wm:=ik;have B4:F w3 (w.heap.size+1+1) 119 L:=gQ;have HB:al w w3:=gK;clear hb3 hg3 B0;have u1:=B1.M 1 L1?;have u2:=B1.M 2 L2?;clear L1? L2?;go_wp2_with fail;refine(hb.out _).mono ?_;rintro _ w4 ⟨rfl,rfl⟩;clear hb u1 u2;have u22:=B4.M 22 L22;have u23:=B4.M 23 L23;have f22:=B4.frozen 22;have f23:=B4.frozen 23;have B4s:=rrS (B4.set 22 uz) LZ.out;go_wp2_with(refine ur (.store 117 (.tmp 63) (.tmp 60)) J (ab J (w.heap.size+1+1) 27 (vi [0,0,0,0,0]) B4s (by rw[Lzl];decide) xf (by intro v hv;obtain⟨b,_,rfl⟩:=List.mem_map.1 hv;rfl) ?_));intro w5 hb5 hg5 hs5;have hne:w.heap.size≠w.heap.size+1+1:=I;have aiX:w.heap.size+1≠w.heap.size+1+1:=I;have B1s:=((B1.y7 (p:=⟨w.heap.size+1+1,22,none⟩) hne uz).y7 (p:=⟨w.heap.size+1+1,23,none⟩) hne uz).grown hg5 (by simpa using hne);have B2s:=((B2.y7 (p:=⟨w.heap.size+1+1,22,none⟩) aiX uz).y7 (p:=⟨w.heap.size+1+1,23,none⟩) aiX uz).grown hg5 ap;have HB0:=((HB.setCell (p:=⟨w.heap.size+1+1,22,none⟩) aA uz).setCell (p:=⟨w.heap.size+1+1,23,none⟩) aA uz);have HBs:=uq HB0 hg5 HB0.size I;have B4z:F w5 (w.heap.size+1+1) 119 L4:=by rw[<-LS.out,List.append_assoc];exact hb5
 clear B1 B2 B4 HB f22 f23 B4s HB0 hg5 hb5 LS LZ hs3 Lzl;have v22:=B1s.M 22 L22;have v23:=B1s.M 23 L23;clear L22 L23;have e1:=HVT.out;have e2:=HVM.out;clear HVT HVM;subst e1;subst e2;go_wp2_with fail;refine(AN.out _ _ (Iq.afF (hT.G HBs) (hM.G HBs) _ hs5.symm 26)).mono ?_;rintro _ w8 ⟨rfl,rfl⟩;clear AN v22 v23;have B1:=B1s.alloc (.cells #[.slice At r.tg.length ct,.slice Am r.ml.length cm] 26);have B2:=B2s.alloc (.cells #[.slice At r.tg.length ct,.slice Am r.ml.length cm] 26);have B4:=B4z.alloc (.cells #[.slice At r.tg.length ct,.slice Am r.ml.length cm] 26);have HB:=HBs.alloc HBs.size (.cells #[.slice At r.tg.length ct,.slice Am r.ml.length cm] 26);have hs4:(w5.alloc (.cells #[.slice At r.tg.length ct,.slice Am r.ml.length cm] 26)).heap.size=w.heap.size+1+1+1+1:=by simpa using hs5
 generalize w5.alloc (.cells #[.slice At r.tg.length ct,.slice Am r.ml.length cm] 26)=w4 at*;clear B1s B2s B4z HBs hs5;by_cases he:e=0
 ·
  subst he;have hr0:=agI.out;rw[if_neg ap]at hr0;have HW:=WI.out w4 _ (Ir.at B1 27 (by rw[hn5];exact LN.out));rw[hn5]at HW;clear WI agI;go_wp2_with fail;refine HW.mono ?_;rintro _ w8 ⟨rfl,rfl⟩;clear HW;cases b3 with
  |true=>
   have hr1:(0:Int)=res:=by simpa using hr0
   subst hr1;clear hr0;go_wp2_with(first
    |(refine ur (.load 119 (.tmp 4)) rfl ?_;go_must(refine uu rfl _ _ rfl (w.heap.size+1+1) 0 rfl B4 33 I _ underlying119 rfl uU L4 (wP I) ?_))
    |(refine ur (.store 119 (.tmp 2) (.tmp 79)) rfl (ab rfl (w.heap.size+1) 0 L4 B2 bj bu L4c.out ?_)))
   exact pj
  |false=>
   have hr1:(4:Int)=res:=by simpa using hr0
   subst hr1;clear hr0;go_wp2_with(first
    |(refine ur (.load 119 (.tmp 4)) rfl ?_;go_must(refine uu rfl _ _ rfl (w.heap.size+1+1) 0 rfl B4 33 I _ underlying119 rfl uU L4 (wP I) ?_))
    |(refine ur (.store 119 (.tmp 2) (.tmp 78)) rfl (ab rfl (w.heap.size+1) 0 L4 B2 bj bu L4c.out ?_)))
   exact pj
 ·
  have hr1:e=res:=by rw[<-agI.out,if_pos he]
  subst hr1;have he':(e !=0)=true:=iE;clear agI WI he;go_wp2_with(first
   |(refine ur (.load 119 (.tmp 4)) rfl ?_;go_must(refine uu rfl _ _ rfl (w.heap.size+1+1) 0 rfl B4 33 I _ underlying119 rfl uU L4 (wP I) ?_))
   |(refine ur (.store 119 (.tmp 2) (.tmp 72)) rfl (ab rfl (w.heap.size+1) 0 L4 B2 bj bu L4c.out ?_)))
  exact pj
def adS(r:RR)(w:World):Ending->World->Prop:=fun e w'=>∃cs,e= .returned (.tuple #[.agg cs.toArray,.int .i64 (yC r)])/\xJ w' cs (yc r)/\al w w'
theorem xE.nil(w:World):xE w none 0 []:=⟨fun h=>absurd h ap,ap,ap,ap⟩
theorem zQ(O N:Int):uQ O N=1\/uQ O N=28\/(uQ O N=5\/uQ O N=12)\/uQ O N=33\/uQ O N=6\/uQ O N=0:=by
 unfold uQ;by_cases h:N=1/\(O=1\/O=28\/O=5\/O=12\/O=33\/O=6)
 ·rw[if_pos h];obtain⟨_,h|h|h|h|h|h⟩:=h<;>simp[h]
 ·rw[if_neg h];simp
theorem abR(cs:List Value)(r:RR)(w:World)(h:xJ w cs r):Calls prog 235 #[.agg cs.toArray] w (adS r w):=by
 obtain⟨An,cn,At,ct,Am,cm,rfl,hr,hN,hT,hM,agn⟩:=h;rcases zQ r.O r.N with z|z|z|z|z|z
 ·refine(aeY _ _ _ r hr J J J w z).mono ?_;rintro _ w' ⟨rfl,hB⟩;refine⟨_,by rw[yC,if_pos z];rfl,?_,hB⟩;rw[yc,if_pos (.inl z)];exact sI
 ·refine(adP _ _ _ r hr J J J w z).mono ?_;rintro _ w' ⟨rfl,hB⟩;refine⟨_,by rw[yC,if_neg I,if_pos z];rfl,?_,hB⟩;rw[yc,if_pos (.inr z)];exact sI
 ·refine(ae0 _ _ At ct r hr J J w hT z).mono ?_;rintro _ w' ⟨rfl,hB⟩;refine⟨_,by rw[yC,if_neg I,if_neg I,if_pos z],?_,hB⟩;rw[yc,if_neg I,if_pos z];exact sT
 ·refine(adQ _ _ At ct r hr J J w hT z).mono ?_;rintro _ w' ⟨rfl,hB⟩;have e:(if[r.pri,r.we,r.po].all (yo 65535)=true then uE r.tg else 4)=yC r:=hU;refine⟨_,by rw[e],?_,hB⟩;rw[yc,if_neg I,if_neg I,if_pos z];exact sT
 ·
  refine(ae2 _ At Am ct cm r hr J w hT hM z).mono ?_;rintro _ w' ⟨rfl,hB⟩;have e:(if zI [r.tg,r.ml]≠0 then zI [r.tg,r.ml]else if r.Hh.all (yo 4294967295)=true then 0 else 4)=yC r:=by
   have e0:yC r=(if uE r.tg≠0 then uE r.tg else if uE r.ml≠0 then uE r.ml else if r.Hh.all (yo 4294967295)then 0 else 4):=hU;rw[e0];simp only[zI];by_cases U:uE r.tg=0
   ·by_cases X:uE r.ml=0<;>simp[U,X]
   ·simp[U]
  refine⟨_,by rw[e],?_,hB⟩;rw[yc,if_neg I,if_neg I,if_neg I,if_pos z];exact⟨An,cn,none,0,none,0,J,⟨hr.1,J⟩,hN.G hB,xE.nil _,xE.nil _,agn⟩
 ·refine(ae1 _ _ _ r hr J J J w agn z).mono ?_;rintro _ w' ⟨rfl,hB⟩;have e:(if 65535<r.raw.length then(3:Int)else 0)=yC r:=hU;refine⟨_,by rw[e],?_,hB⟩;rw[yc,if_neg I,if_neg I,if_neg I,if_neg I];exact⟨An,cn,At,ct,Am,cm,J,hr,hN.G hB,hT.G hB,hM.G hB,ap⟩
theorem Zs(a:vG)(ha:a.ip.length=16)(w:World):(Op.equalIn 10000 24 (.agg a.cells.toArray) (.agg #[.int .i64 0,.int .u8 0,.int .u8 0,.int .u8 0,.int .u8 0,.int .u8 0,.int .u8 0,.int .u8 0,.int .u8 0,.int .u8 0,.int .u8 0,.int .u8 0,.int .u8 0,.int .u8 0,.int .u8 0,.int .u8 0,.int .u8 0,.int .i64 0])).run prog w= .ok (decide (a=vG.zero)) w:=
 FL a vG.zero ha J w
theorem Zt(l:List Int)(hl:l.length=5)(w:World):(Op.equalIn 10000 117 (.agg (vi l).toArray) (.agg #[.int .i64 0,.int .i64 0,.int .i64 0,.int .i64 0,.int .i64 0])).run prog w= .ok (l==[0,0,0,0,0]) w:=
 zk w 9998 117 3 5 .i64 underlying117 underlying3 Rn l [0,0,0,0,0] hl J
theorem PB(n:Int):(n !=0)=!decide (n=0):=by by_cases h:n=0<;>simp[h]
theorem u6{P:Program}{ops:Array Oper}{rest:List Oper}{op:Oper}{a:Act}{w:World}{Q:Exit->Act->World->Prop}(hw:Region.wanted op (yielded ops a.tmps)=true)(O:TypeId)(x:Operand)(ho:op.op= .load O x)
  (g o:Nat) (hx:a.eval x= .pointer (some ⟨g,o,none⟩)) {t:TypeId} {L:List Value} (Z:F w g t L) (n:Nat) (hn:o+n<=L.length) (d:TypeDesc)
  (hu:P.underlying O=some d) (hd:d.isRow=true) (hi:(P.info? O).map (·.size)=some n) (sub:List Value) (agp:(L.drop o).take n=sub)
  (h:wpList P ops Q rest (a.put op.dst (.agg sub.toArray)) w):wpList P ops Q (op::rest) a w:=by
 have hl:sub.length=n:=kY;refine wpList_step fun hb hK=>?_
 rw[if_pos hw];exact wp_load_mid O x ho g o hx sub d (agp▸Z.range o n hn) hu hd aE (hK _ _ h)
theorem yK(cs:List Value)(r:RR)(w:World)(h:xJ w cs r):Calls prog 205 #[.agg cs.toArray] w (uI (.int .i64 (uN r)) w):=by
 have hh:=h;obtain⟨An,cn,At,ct,Am,cm,hS,hr,hN,hT,hM,agn⟩:=h;have hl:cs.length=33:=iY;have L0:cs[0]?=some (.slice An r.name.length cn):=bI;have L1:cs[1]?=some (.int .i64 r.O):=bI;have L2:cs[2]?=some (.int .i64 r.N):=bI;have L3:cs[3]?=some (.int .i64 r.ak):=bI;clear hS;have hB0:Below w.heap.size w (w.alloc (.cells cs.toArray 119)):=gF;have Z:=F.new w 119 cs;have HH:=Y (fun w' (b:al w w')=>abR cs r w' (hh.G b));have CN:=Y (fun w' (b:al w w')=>zG An cn r.name w' (hN.G b).1 bB);have W1:=Y (fun w A h=>Dj 65535 A 2 [r.O,r.N] w h ap);have W2:=Y (fun w A h=>Dj 4294967295 A 1 [r.ak] w h ap);have HE:Hid (uN r=_):=Y (by unfold uN;rfl);generalize uN r=res at*;generalize r.O=O,r.N=N,r.ak=ak at*;generalize uE r.name=e0 at*;generalize[O,N].all (yo 65535)=b1 at*;have w2e:[ak].all (yo 4294967295)=yo 4294967295 ak:=ap;rw[w2e]at W2;clear w2e;generalize yo 4294967295 ak=b2 at*;have u0:=Z.M 0 L0;have u1:=Z.M 1 L1;have u2:=Z.M 2 L2;have u3:=Z.M 3 L3;clear L0 L1 L2 hN hT hM agn;go_enter func205,ntmps205;go_wp2_with fail;refine(CN.out _ hB0).mono ?_;rintro _ w1 ⟨rfl,rfl⟩;clear CN;by_cases h0:e0=0
 case neg=>have hr0:=HE.out;rw[if_pos h0]at hr0;subst hr0;have h0':(res !=0)=true:=kD;clear HE h0;exact rL
 subst h0;have HE1:=Y (HE.out.trans (if_neg ap));clear HE;generalize hw1:w.alloc (.cells cs.toArray 119)=w1 at*;have hs1:w1.heap.size=w.heap.size+1:=by rw[<-hw1];simp
 clear hw1;go_wp2_with fail;refine(W1.out _ _ (Ir.new [O,N] _ hs1.symm 3)).mono ?_;rintro _ w2 ⟨rfl,rfl⟩;clear W1;have hB1:=hB0.alloc hB0.size (.cells (vi [O,N]).toArray 3);have hb1:=Z.alloc (.cells (vi [O,N]).toArray 3);have hs2:(w1.alloc (.cells (vi [O,N]).toArray 3)).heap.size=w.heap.size+1+1:=by simp[hs1]
 generalize w1.alloc (.cells (vi [O,N]).toArray 3)=w2 at*;clear hB0 Z hs1;cases b1 with
 |false=>have hr0:=HE1.out;rw[if_pos (.inl ap)]at hr0;subst hr0;clear HE1;go_wp2_with fail;go_ret;exact uI.mk J hB1
 |true=>
 have u3:=hb1.M 3 L3;clear L3;go_wp2_with fail;refine(W2.out _ _ (Ir.new [ak] _ hs2.symm 3)).mono ?_;rintro _ w3 ⟨rfl,rfl⟩;clear W2;have hB2:=hB1.alloc hB1.size (.cells (vi [ak]).toArray 3);have hb2:=hb1.alloc (.cells (vi [ak]).toArray 3);generalize w2.alloc (.cells (vi [ak]).toArray 3)=w3 at*;clear hB1 hb1 hs2 u3;cases b2 with
 |false=>have hr0:=HE1.out;rw[if_pos (.inr ap)]at hr0;subst hr0;clear HE1;go_wp2_with fail;go_ret;exact uI.mk J hB2
 |true=>
 have HE2:=Y (HE1.out.trans (if_neg ap));clear HE1;go_wp2_with(refine ur (.load 119 (.tmp 1)) J ?_;go_must(refine uu J _ _ J w.heap.size 0 J hb2 33 I _ underlying119 J uU cs (wP I) ?_));go_wp2_with fail;refine(HH.out _ hB2).mono ?_;rintro _ w4 ⟨cs4,rfl,hR4,atO⟩;have hB4:=um hB2 hB2.size atO;clear HH atO hb2 hB2 hl hh;obtain⟨An4,cn4,At4,ct4,Am4,cm4,ais,hr4,hN4,hT4,hM4,aBK⟩:=hR4;generalize yc r=r4 at*;have hl4:cs4.length=33:=by rw[ais];exact vA hr4
 have M22:cs4[22]?=some (.slice At4 r4.tg.length ct4):=by rw[ais];exact BS hr4
 have M23:cs4[23]?=some (.slice Am4 r4.ml.length cm4):=by rw[ais];exact I7 hr4
 have M24:cs4[24]?=some (.int .i64 r4.pri):=by rw[ais];exact I8 hr4
 have M25:cs4[25]?=some (.int .i64 r4.we):=by rw[ais];exact I9 hr4
 have M26:cs4[26]?=some (.int .i64 r4.po):=by rw[ais];exact Jb hr4
 have M32:cs4[32]?=some (.string (bs r4.raw)):=by rw[ais];exact Jc hr4
 have LA:Hid ((cs4.drop 4).take 18=r4.ad.cells):=Y (by rw[ais];exact CG hr4);have LN:Hid ((cs4.drop 27).take 5=vi r4.Hh):=Y (by rw[ais];exact Fh hr4);have L1c:Hid (∀v∈cs4,v.oneCell'=true):=Y (by rw[ais];exact wR J J J);clear ais;have EA:=Zs r4.ad hr4.1;have EN:=Zt r4.Hh hr4.2;have tb:=hT4.2.2.1;have mb:=hM4.2.2.1;clear hN4 hT4 hM4;have HE3:Hid (res=if yC r≠0 then yC r else if AU r4 then 0 else 5):=HE2;clear HE2;generalize yC r=e1 at*;go_wp2_with(refine ur (.store 119 (.tmp 4) (.tmp 29)) J (ab J w4.heap.size 0 cs4 (F.wE _ _ wm _ ap) bj (by rw[hl4];exact uU) L1c.out ?_));intro w5 hb5 hg5 hs5;rw[List.drop_of_length_le bj,List.append_nil]at hb5;have B4:=hb5;have hB5:al w w5:=uq (hB4.alloc hB4.size _) hg5 (by have:=hB4.size;simp;omega) hB4.size;clear hb5 hg5 hB4 L1c hr hs5;by_cases U:e1=0
 case neg=>have hr0:=HE3.out;rw[if_pos U]at hr0;subst hr0;have h0':(res !=0)=true:=iA;clear HE3 U EA EN M22 M23 M24 M25 M26 M32;go_wp2_with fail;exact rk
 subst U;have HE4:=HE3.out.trans (if_neg ap);clear HE3;have c22:=B4.M 22 M22;have c23:=B4.M 23 M23;have c24:=B4.M 24 M24;have c25:=B4.M 25 M25;have c26:=B4.M 26 M26;have c32:=B4.M 32 M32;clear M22 M23 M24 M25 M26 M32;have q1:decide (r4.tg=[])=true↔r4.tg.length=0:=ap;have q2:decide (r4.ml=[])=true↔r4.ml.length=0:=ap;have q3:=PB r4.pri;have q4:=PB r4.we;have q5:=PB r4.po;have q6:(r4.Hh==[0,0,0,0,0])=decide (r4.Hh=[0,0,0,0,0]):=by by_cases h:r4.Hh=[0,0,0,0,0]<;>simp[h]
 have q7:decide (r4.raw=[])=true↔r4.raw=[]:=ap;rw[q6]at EN;clear q6;unfold AU at HE4;generalize decide (r4.ad=vG.zero)=bA at*;generalize decide (r4.tg=[])=bT at*;generalize decide (r4.ml=[])=bM at*;generalize decide (r4.pri=0)=bP at*;generalize decide (r4.we=0)=bW at*;generalize decide (r4.po=0)=bO at*;generalize decide (r4.Hh=[0,0,0,0,0])=bN at*;generalize decide (r4.raw=[])=bR at*;generalize r4.ad.cells=LAd at*;generalize vi r4.Hh=LNs at*;generalize r4.pri=pri,r4.we=we at*;generalize r4.po=po,r4.tg.length=n1 at*;generalize r4.ml.length=n2,r4.raw=raw at*;have HE5:=Y HE4;clear HE4 hr4;cases bA with
 |false=>
  have hr0:res=5:=iB;subst hr0;clear HE5 q1 q2 q3 q4 q5 q7;go_wp2_with(first
   |(refine ur (.load 24 (.tmp 34)) rfl ?_;go_must(refine uu rfl _ _ rfl w4.heap.size 4 rfl B4 18 I _ underlying24 rfl wD LAd LA.out ?_))
   |(refine ur (.load 117 (.tmp 66)) rfl ?_;refine u6 (by kernel_rfl) 117 (.tmp 66) rfl w4.heap.size 27 rfl B4 5 I _ underlying117 rfl xf LNs LN.out ?_))
  exact rk
 |true=>
 cases bT with
 |false=>
  have hr0:res=5:=iB;subst hr0;have p1:0<n1:=by simp at q1;omega
  have p2:(0:Int)<n1:=I;clear HE5 q1 q2 q3 q4 q5 q7;go_wp2_with(first
   |(refine ur (.load 24 (.tmp 34)) rfl ?_;go_must(refine uu rfl _ _ rfl w4.heap.size 4 rfl B4 18 I _ underlying24 rfl wD LAd LA.out ?_))
   |(refine ur (.load 117 (.tmp 66)) rfl ?_;refine u6 (by kernel_rfl) 117 (.tmp 66) rfl w4.heap.size 27 rfl B4 5 I _ underlying117 rfl xf LNs LN.out ?_))
  exact rk
 |true=>
 obtain rfl:=q1.1 J;clear q1;cases bM with
 |false=>
  have hr0:res=5:=iB;subst hr0;have p1:0<n2:=by simp at q2;omega
  have p2:(0:Int)<n2:=I;clear HE5 q2 q3 q4 q5 q7;go_wp2_with(first
   |(refine ur (.load 24 (.tmp 34)) rfl ?_;go_must(refine uu rfl _ _ rfl w4.heap.size 4 rfl B4 18 I _ underlying24 rfl wD LAd LA.out ?_))
   |(refine ur (.load 117 (.tmp 66)) rfl ?_;refine u6 (by kernel_rfl) 117 (.tmp 66) rfl w4.heap.size 27 rfl B4 5 I _ underlying117 rfl xf LNs LN.out ?_))
  exact rk
 |true=>
 obtain rfl:=q2.1 J;clear q2;cases bP with
 |false=>
  have hr0:res=5:=iB;subst hr0;simp only[Bool.not_false]at q3;clear HE5 q4 q5 q7;go_wp2_with(first
   |(refine ur (.load 24 (.tmp 34)) rfl ?_;go_must(refine uu rfl _ _ rfl w4.heap.size 4 rfl B4 18 I _ underlying24 rfl wD LAd LA.out ?_))
   |(refine ur (.load 117 (.tmp 66)) rfl ?_;refine u6 (by kernel_rfl) 117 (.tmp 66) rfl w4.heap.size 27 rfl B4 5 I _ underlying117 rfl xf LNs LN.out ?_))
  exact rk
 |true=>
 cases bW with
 |false=>
  have hr0:res=5:=iB;subst hr0;simp only[Bool.not_false,Bool.not_true]at q3 q4;clear HE5 q5 q7;go_wp2_with(first
   |(refine ur (.load 24 (.tmp 34)) rfl ?_;go_must(refine uu rfl _ _ rfl w4.heap.size 4 rfl B4 18 I _ underlying24 rfl wD LAd LA.out ?_))
   |(refine ur (.load 117 (.tmp 66)) rfl ?_;refine u6 (by kernel_rfl) 117 (.tmp 66) rfl w4.heap.size 27 rfl B4 5 I _ underlying117 rfl xf LNs LN.out ?_))
  exact rk
 |true=>
 cases bO with
 |false=>
  have hr0:res=5:=iB;subst hr0;simp only[Bool.not_false,Bool.not_true]at q3 q4 q5;clear HE5 q7;go_wp2_with(first
   |(refine ur (.load 24 (.tmp 34)) rfl ?_;go_must(refine uu rfl _ _ rfl w4.heap.size 4 rfl B4 18 I _ underlying24 rfl wD LAd LA.out ?_))
   |(refine ur (.load 117 (.tmp 66)) rfl ?_;refine u6 (by kernel_rfl) 117 (.tmp 66) rfl w4.heap.size 27 rfl B4 5 I _ underlying117 rfl xf LNs LN.out ?_))
  exact rk
 |true=>
 cases bN with
 |false=>
  have hr0:res=5:=iB;subst hr0;simp only[Bool.not_true]at q3 q4 q5;clear HE5 q7;go_wp2_with(first
   |(refine ur (.load 24 (.tmp 34)) rfl ?_;go_must(refine uu rfl _ _ rfl w4.heap.size 4 rfl B4 18 I _ underlying24 rfl wD LAd LA.out ?_))
   |(refine ur (.load 117 (.tmp 66)) rfl ?_;refine u6 (by kernel_rfl) 117 (.tmp 66) rfl w4.heap.size 27 rfl B4 5 I _ underlying117 rfl xf LNs LN.out ?_))
  exact rk
 |true=>
 cases bR with
 |false=>
  have hr0:res=5:=iB;subst hr0;simp only[Bool.not_true]at q3 q4 q5;have p1:raw≠[]:=by simpa using q7
  have p2:raw.isEmpty=false:=by simpa using p1
  clear HE5 q7;go_wp2_with(first
   |(refine ur (.load 24 (.tmp 34)) rfl ?_;go_must(refine uu rfl _ _ rfl w4.heap.size 4 rfl B4 18 I _ underlying24 rfl wD LAd LA.out ?_))
   |(refine ur (.load 117 (.tmp 66)) rfl ?_;refine u6 (by kernel_rfl) 117 (.tmp 66) rfl w4.heap.size 27 rfl B4 5 I _ underlying117 rfl xf LNs LN.out ?_))
  exact rk
 |true=>
  have hr0:res=0:=iB;subst hr0;simp only[Bool.not_true]at q3 q4 q5;obtain rfl:=q7.1 J;clear HE5 q7;go_wp2_with(first
   |(refine ur (.load 24 (.tmp 34)) rfl ?_;go_must(refine uu rfl _ _ rfl w4.heap.size 4 rfl B4 18 I _ underlying24 rfl wD LAd LA.out ?_))
   |(refine ur (.load 117 (.tmp 66)) rfl ?_;refine u6 (by kernel_rfl) 117 (.tmp 66) rfl w4.heap.size 27 rfl B4 5 I _ underlying117 rfl xf LNs LN.out ?_))
  exact rk
abbrev Co:=List (List (List UInt8)×Nat)
def Ek(lo:Nat)(w:World)(p:Option Addr):Option Co->Prop
 |none=>p=none
 |some T=>∃g b,p=some ⟨g,0,none⟩/\lo<=g/\lo<=b/\Ce w g b T
def vh(T:Option Co)(uG:Int)(n:List (List UInt8)):List UInt8:=match T with
 |none=>yS n
 |some T=>I6 T uG n
def vL(T:Option Co)(uG:Int)(n:List (List UInt8)):Option Co:=T.map fun T=>Kl T uG n
def zm(T:Option Co)(k:Nat):Prop:=∀T',T=some T'->T'.length<=k
theorem zm.put{T:Option Co}{k:Nat}(h:zm T k)(uG:Int)(n:List (List UInt8)):zm (vL T uG n) (k+254):=by
 intro T' hT';cases T with
 |none=>cases hT'
 |some T=>
  obtain rfl:Kl T uG n=T':=by simpa[vL]using hT'
  have:=h T J;have:=RI T uG n;omega
theorem Ek.G{w:World}{p:Option Addr}{T:Option Co}(h:Ek lo w p T)(Z:al w w'):Ek lo w' p T:=by
 cases T with
 |none=>exact h
 |some T=>obtain⟨g,b,U,X,h3,h4⟩:=h;exact⟨g,b,U,X,h3,h4.G Z⟩
def AQ(lo:Nat)(w w':World):Prop:=Below lo w w'/\∀(g:Nat) (t:TypeId) (cs:Array Value) (fz:Nat×Nat),w.heap[g]?=some (.cells cs t fz)->w'.heap[g]?=some (.cells cs t fz)
theorem AQ.vj{w:World}(h:AQ lo w w'){cs:List Value}(Z:F w g t cs):F w' g t cs:=h.2 g t cs.toArray (0,0) Z
theorem AQ.trans{w w2:World}(h:AQ lo w w1)(h':AQ lo w1 w2):AQ lo w w2:=⟨h.1.trans h'.1,fun g t cs fz Z=>h'.2 g t cs fz (h.2 g t cs fz Z)⟩
theorem PC{w:World}{o:Obj}(h:w.heap[g]?=some o):g<w.heap.size:=(Array.getElem?_eq_some_iff.1 h).1
theorem AQ.y9{w:World}(h:al w w1)(uw:lo<=w.heap.size):AQ lo w w1:=⟨h.mono uw,fun g t cs fz Z=>(h.block g (PC Z)).trans Z⟩
def Zu(lo:Nat)(p:Option Addr)(s:List UInt8)(e:Int)(T:Option Co)(w:World)(x:Ending)(w':World):Prop:=
 x= .returned (.tuple #[.string (bs s),.int .i64 e])/\Ek lo w' p T/\AQ lo w w'
theorem Is(lo:Nat)(p:Option Addr)(T:Option Co)(A:Option Addr)(c:Nat)(n:List (List UInt8))(uG:Int)(w:World)(uw:lo<=w.heap.size)(hT:Ek lo w p T)(hA:xE w A c n)(hf:zm T 900000):
  Calls prog 236 #[.pointer p,.slice A n.length c,.int .i64 uG] w (Zu lo p (vh T uG n) (uE n) (vL T uG n) w):=by
 cases T with
 |none=>obtain rfl:p=none:=hT;refine(Lq A c n uG w hA).mono ?_;rintro _ w' ⟨rfl,hB⟩;exact⟨J,J,AQ.y9 hB uw⟩
 |some T=>
  obtain⟨g,b,rfl,X,h3,h4⟩:=hT;refine(UG g b T A c n uG w h4 hA (hf T J)).mono ?_;rintro _ w' ⟨rfl,h5,h6⟩;have hne:∀(k:Nat) (t:TypeId) (cs:Array Value) (fz:Nat×Nat),w.heap[k]?=some (.cells cs t fz)->some k≠some b:=by obtain⟨_,⟨f,⟨D,⟨es,N,hm,_⟩,_⟩,_⟩,_⟩:=h4;intro k t cs fz Z he;obtain rfl:=Option.some.inj he;rw[Z]at hm;cases hm
  exact⟨J,⟨g,b,J,X,h3,h5⟩,uq (Below.refl _ _) h6 uw h3,fun k t cs fz Z=>(h6.block k (PC Z) (hne k t cs fz Z)).trans Z⟩
def yT(T:Option Co)(uG:Int)(r:RR):List UInt8:=
 if uQ r.O r.N=1 then r.ad.ip.take 4
 else if uQ r.O r.N=28 then r.ad.ip
 else if uQ r.O r.N=5\/uQ r.O r.N=12 then vh T uG r.tg
 else if uQ r.O r.N=33 then uA 2 r.pri++uA 2 r.we++uA 2 r.po++yS r.tg
 else if uQ r.O r.N=6 then vh T uG r.tg++vh (vL T uG r.tg) (uG+(vh T uG r.tg).length) r.ml++r.Hh.flatMap (uA 4)
 else r.raw
def El(T:Option Co)(uG:Int)(r:RR):Option Co:=
 if uQ r.O r.N=5\/uQ r.O r.N=12 then vL T uG r.tg
 else if uQ r.O r.N=6 then vL (vL T uG r.tg) (uG+(vh T uG r.tg).length) r.ml
 else T
theorem FT{r:RR}(h:uN r=0):uE r.name=0/\yC r=0:=by
 unfold uN at h;by_cases U:uE r.name=0
 ·
  refine⟨U,?_⟩;rw[if_neg bC]at h;split at h
  ·omega
  ·
   by_cases X:yC r=0
   ·exact X
   ·rw[if_pos X]at h;exact h
 ·exact tG
theorem Zv(cs:List Value)(r:RR)(uG:Int)(p:Option Addr)(w:World)(h:xJ w cs r)(hc:uN r≠0):
  Calls prog 210 #[.agg cs.toArray,.int .i64 uG,.pointer p] w (uI (.tuple #[.string (bs []),.int .i64 (uN r)]) w):=by
 have CK:=Y (fun w' (b:al w w')=>yK cs r w' (h.G b));have hl:cs.length=33:=gI;generalize uN r=e at*;have he:(e !=0)=true:=iS;clear hc h;have B0:=F.new w 119 cs;have HB0:Below w.heap.size w (w.alloc (.cells cs.toArray 119)):=gF;go_enter func210,ntmps210;exact pZ
theorem Zw(cs:List Value)(r:RR)(uG:Int)(p:Option Addr)(w:World)(h:xJ w cs r)(hc:uN r=0)(z:uQ r.O r.N=0):
  Calls prog 210 #[.agg cs.toArray,.int .i64 uG,.pointer p] w (uI (.tuple #[.string (bs r.raw),.int .i64 0]) w):=by
 have CK:=Y (fun w' (b:al w w')=>yK cs r w' (h.G b));have hl:cs.length=33:=gI;have L1:cs[1]?=some (.int .i64 r.O):=gH;have L2:cs[2]?=some (.int .i64 r.N):=gH;have L32:cs[32]?=some (.string (bs r.raw)):=ke;have hb:=Y (fun w=>wB r.O r.N w);rw[z]at hb;rw[hc]at CK;clear h hc z;generalize r.O=O,r.N=N at*;have B0:=F.new w 119 cs;have HB0:Below w.heap.size w (w.alloc (.cells cs.toArray 119)):=gF;go_enter func210,ntmps210;go_wp2_with(refine ur (.load 119 (.tmp 3)) J ?_;go_must(refine uu J _ _ J w.heap.size 0 J B0 33 I _ underlying119 J uU cs (wP I) ?_));go_wp2_with fail;refine(CK.out _ HB0).mono ?_;rintro _ w2 ⟨rfl,b2⟩;have B:=B0.G b2 B0.lt;have HB:=um HB0 HB0.size b2;clear B0 HB0 b2 CK;have u1:=B.M 1 L1;have u2:=B.M 2 L2;go_wp2_with fail;refine(hb.out _).mono ?_;rintro _ w3 ⟨rfl,rfl⟩;have u32:=B.M 32 L32;clear hb u1 u2 L1 L2 L32;exact qA
theorem Xo(lo:Nat)(cs:List Value)(r:RR)(uG:Int)(p:Option Addr)(T:Option Co)(w:World)(h:xJ w cs r)(uw:lo<=w.heap.size)(hT:Ek lo w p T)(hf:zm T 900000)(hc:uN r=0)(z:uQ r.O r.N=5\/uQ r.O r.N=12):
  Calls prog 210 #[.agg cs.toArray,.int .i64 uG,.pointer p] w (Zu lo p (vh T uG r.tg) (uE r.tg) (vL T uG r.tg) w):=by
 have CK:=Y (fun w' (b:al w w')=>yK cs r w' (h.G b));have hl:cs.length=33:=gI;have L1:cs[1]?=some (.int .i64 r.O):=gH;have L2:cs[2]?=some (.int .i64 r.N):=gH;obtain⟨At,ct,L22,hR⟩:∃At ct,cs[22]?=some (.slice At r.tg.length ct)/\xE w At ct r.tg:=by exact rA
 have hb:=Y (fun w=>wB r.O r.N w);rw[hc]at CK;clear h hc;have PT:=Y (fun w' (b:al w w')=>Is lo p T At ct r.tg uG w' (Nat.le_trans uw b.size) (hT.G b) (hR.G b) hf);generalize vh T uG r.tg=s at*;generalize vL T uG r.tg=T' at*;generalize uE r.tg=e at*;generalize r.tg.length=n at*;generalize uQ r.O r.N=k at*;generalize r.O=O,r.N=N at*;clear hT hf hR;rcases z with rfl|rfl;all_goals
  have B0:=F.new w 119 cs;have HB0:Below w.heap.size w (w.alloc (.cells cs.toArray 119)):=gF;go_enter func210,ntmps210;go_wp2_with(refine ur (.load 119 (.tmp 3)) J ?_;go_must(refine uu J _ _ J w.heap.size 0 J B0 33 I _ underlying119 J uU cs (wP I) ?_));go_wp2_with fail;refine(CK.out _ HB0).mono ?_;rintro _ w2 ⟨rfl,b2⟩;have B:=B0.G b2 B0.lt;have HB:=um HB0 HB0.size b2;clear B0 HB0 b2 CK;have u1:=B.M 1 L1;have u2:=B.M 2 L2;go_wp2_with fail;refine(hb.out _).mono ?_;rintro _ w3 ⟨rfl,rfl⟩;have u22:=B.M 22 L22;clear hb u1 u2 L1 L2 L22;go_wp2_with fail;refine(PT.out _ HB).mono ?_;rintro _ w3 ⟨rfl,hT3,hB3⟩;go_wp2_with fail;go_ret2;exact⟨J,hT3,(AQ.y9 HB uw).trans hB3⟩
theorem adT{vn vt vm:Value}{r:RR}(h:r.wf)(j:Nat)(hj:j<r.ad.ip.length):(vX vn vt vm r)[5+j]?=some (.int .u8 (r.ad.ip[j].toNat:Int)):=by
 have h16:=h.1;have e:((vX vn vt vm r).drop 4).take 18=r.ad.cells:=CG h;have e1:(((vX vn vt vm r).drop 4).take 18)[1+j]?=(vX vn vt vm r)[5+j]?:=by rw[List.getElem?_take_of_lt I,List.getElem?_drop];congr 1;omega
 rw[<-e1,e,vG.cells,Nat.add_comm 1 j,List.getElem?_cons_succ,List.getElem?_append_left (by rw[v9];exact hj),DI _ _ hj]
theorem KE{w:World}{o:Nat}{L:List Value}(h:F w g t L)(q:List UInt8)(cap:Nat)(hq:∀j (hj:j<q.length),L[o+j]?=some (.int .u8 (q[j].toNat:Int))):
  (convert 145 9 (.slice (some ⟨g,o,none⟩) q.length cap)).run prog w= .ok (.string (bs q)) w:=
 run_convert_bytes_back w 145 9 5 ⟨g,o,none⟩ cap q underlying145 underlying5 underlying9 fun j hj=>by
  have U:=h.M (o+j) (hq j hj);cases j with
  |zero=>exact U
  |succ j=>exact U
theorem Oc(cs:List Value)(r:RR)(uG:Int)(p:Option Addr)(w:World)(h:xJ w cs r)(hc:uN r=0)(z:uQ r.O r.N=1\/uQ r.O r.N=28):
  Calls prog 210 #[.agg cs.toArray,.int .i64 uG,.pointer p] w (uI (.tuple #[.string (bs (if uQ r.O r.N=1 then r.ad.ip.take 4 else r.ad.ip)),.int .i64 0]) w):=by
 have CK:=Y (fun w' (b:al w w')=>yK cs r w' (h.G b));have hl:cs.length=33:=gI;have L1:cs[1]?=some (.int .i64 r.O):=gH;have L2:cs[2]?=some (.int .i64 r.N):=gH;have h16:r.ad.ip.length=16:=kI;have LI:Hid (∀j (hj:j<r.ad.ip.length),cs[5+j]?=some (.int .u8 (r.ad.ip[j].toNat:Int))):=Y bD;have hb:=Y (fun w=>wB r.O r.N w);rw[hc]at CK;clear h hc;generalize uQ r.O r.N=k at*;generalize r.ad.ip=ip,r.O=O,r.N=N at*;rcases z with rfl|rfl
 ·
  rw[if_pos J];have h4:(ip.take 4).length=4:=by simp[h16]
  have B0:=F.new w 119 cs;have HB0:Below w.heap.size w (w.alloc (.cells cs.toArray 119)):=gF;go_enter func210,ntmps210;go_wp2_with(refine ur (.load 119 (.tmp 3)) J ?_;go_must(refine uu J _ _ J w.heap.size 0 J B0 33 I _ underlying119 J uU cs (wP I) ?_));go_wp2_with fail;refine(CK.out _ HB0).mono ?_;rintro _ w2 ⟨rfl,b2⟩;have B:=B0.G b2 B0.lt;have HB:=um HB0 HB0.size b2;clear B0 HB0 b2 CK;have u1:=B.M 1 L1;have u2:=B.M 2 L2;go_wp2_with fail;refine(hb.out _).mono ?_;rintro _ w3 ⟨rfl,rfl⟩;have CV:=KE (o:=5) B (ip.take 4) 16 (fun j hj=>by rw[LI.out j I];simp);rw[h4]at CV;generalize ip.take 4=q at*;clear hb u1 u2 L1 L2 LI h16;exact qA
 ·rw[if_neg az];have B0:=F.new w 119 cs;have HB0:Below w.heap.size w (w.alloc (.cells cs.toArray 119)):=gF;go_enter func210,ntmps210;go_wp2_with(refine ur (.load 119 (.tmp 3)) J ?_;go_must(refine uu J _ _ J w.heap.size 0 J B0 33 I _ underlying119 J uU cs (wP I) ?_));go_wp2_with fail;refine(CK.out _ HB0).mono ?_;rintro _ w2 ⟨rfl,b2⟩;have B:=B0.G b2 B0.lt;have HB:=um HB0 HB0.size b2;clear B0 HB0 b2 CK;have u1:=B.M 1 L1;have u2:=B.M 2 L2;go_wp2_with fail;refine(hb.out _).mono ?_;rintro _ w3 ⟨rfl,rfl⟩;have CV:=KE (o:=5) B ip 16 (fun j hj=>LI.out j hj);rw[h16]at CV;clear hb u1 u2 L1 L2 LI;exact qA
theorem Lx(n:Int)(w:World):Calls prog 117 #[.int .i64 2,.int .i64 n] w (uI (.string (bs (uA 2 n))) w):=wQ 2 n w
theorem Fj(n:Int)(w:World):Calls prog 117 #[.int .i64 4,.int .i64 n] w (uI (.string (bs (uA 4 n))) w):=wQ 4 n w
theorem Zx(cs:List Value)(r:RR)(uG:Int)(p:Option Addr)(w:World)(h:xJ w cs r)(hc:uN r=0)(z:uQ r.O r.N=33):
  Calls prog 210 #[.agg cs.toArray,.int .i64 uG,.pointer p] w (uI (.tuple #[.string (bs (uA 2 r.pri++uA 2 r.we++uA 2 r.po++yS r.tg)),.int .i64 (uE r.tg)]) w):=by
 have CK:=Y (fun w' (b:al w w')=>yK cs r w' (h.G b));have hl:cs.length=33:=gI;have L1:cs[1]?=some (.int .i64 r.O):=gH;have L2:cs[2]?=some (.int .i64 r.N):=gH;obtain⟨At,ct,L22,hR⟩:∃At ct,cs[22]?=some (.slice At r.tg.length ct)/\xE w At ct r.tg:=by exact rA
 have L24:cs[24]?=some (.int .i64 r.pri):=kj;have L25:cs[25]?=some (.int .i64 r.we):=ki;have L26:cs[26]?=some (.int .i64 r.po):=kh;have hb:=Y (fun w=>wB r.O r.N w);have hz:(yS r.tg).length<=255:=by exact sL
 rw[hc]at CK;rw[z]at hb;clear h hc z;have PT:=Y (fun w' (b:al w w')=>Lq At ct r.tg uG w' (hR.G b));generalize yS r.tg=abx at*;generalize uE r.tg=e at*;generalize r.tg.length=n,r.O=O,r.N=N at*;clear hR;have P1:=Y (fun w=>Lx r.pri w);have P2:=Y (fun w=>Lx r.we w);have P3:=Y (fun w=>Lx r.po w);have l1:=uy 2 r.pri;have l2:=uy 2 r.we;have l3:=uy 2 r.po;generalize uA 2 r.pri=s1 at*;generalize uA 2 r.we=s2 at*;generalize uA 2 r.po=s3 at*;generalize r.pri=pri,r.we=we,r.po=po at*;have B0:=F.new w 119 cs;have HB0:Below w.heap.size w (w.alloc (.cells cs.toArray 119)):=gF;go_enter func210,ntmps210;go_wp2_with(refine ur (.load 119 (.tmp 3)) J ?_;go_must(refine uu J _ _ J w.heap.size 0 J B0 33 I _ underlying119 J uU cs (wP I) ?_));go_wp2_with fail;refine(CK.out _ HB0).mono ?_;rintro _ w2 ⟨rfl,b2⟩;have B:=B0.G b2 B0.lt;have HB:=um HB0 HB0.size b2;clear B0 HB0 b2 CK;have u1:=B.M 1 L1;have u2:=B.M 2 L2;go_wp2_with fail;refine(hb.out _).mono ?_;rintro _ w3 ⟨rfl,rfl⟩;have u22:=B.M 22 L22;clear hb u1 u2 L1 L2 L22;go_wp2_with fail;refine(PT.out _ HB).mono ?_;rintro _ w3 ⟨rfl,hB3⟩;have B3:=B.G hB3 B.lt;have HB3:=um HB HB.size hB3;clear B HB hB3 PT;go_wp2_with fail;refine wY (by kernel_rfl) (by kernel_rfl) ?_
 (refine ux (v:=(.pointer (some ⟨w.heap.size,24,none⟩))) J (fun W hW=>by first|(go_simp;done)|(go_simp;omega)) ?_;simp only[E])
 refine vr 3 (.tmp 54) J ⟨w.heap.size,24,none⟩ J J (fun W hW=>uB underlying3 J ((B3.G hW B3.lt).M 24 L24)) ?_;simp only[E];refine vy 117 #[.int .i64 2,.int .i64 pri] J (fun W=>by go_simp) (fun W hW=>uI.y9 hW (P1.out W)) ?_;simp only[E]
 (refine ux (v:=(.pointer (some ⟨w.heap.size,25,none⟩))) J (fun W hW=>by first|(go_simp;done)|(go_simp;omega)) ?_;simp only[E])
 refine vr 3 (.tmp 57) J ⟨w.heap.size,25,none⟩ J J (fun W hW=>uB underlying3 J ((B3.G hW B3.lt).M 25 L25)) ?_;simp only[E];refine vy 117 #[.int .i64 2,.int .i64 we] J (fun W=>by go_simp) (fun W hW=>uI.y9 hW (P2.out W)) ?_;simp only[E]
 (refine ux (v:=(.string (bs (s1++s2)))) J (fun W hW=>by first|(go_simp;done)|(go_simp;omega)) ?_;simp only[E])
 (refine ux (v:=(.pointer (some ⟨w.heap.size,26,none⟩))) J (fun W hW=>by first|(go_simp;done)|(go_simp;omega)) ?_;simp only[E])
 refine vr 3 (.tmp 61) J ⟨w.heap.size,26,none⟩ J J (fun W hW=>uB underlying3 J ((B3.G hW B3.lt).M 26 L26)) ?_;simp only[E];refine vy 117 #[.int .i64 2,.int .i64 po] J (fun W=>by go_simp) (fun W hW=>uI.y9 hW (P3.out W)) ?_;simp only[E]
 (refine ux (v:=(.string (bs (s1++s2++s3)))) J (fun W hW=>by first|(go_simp;done)|(go_simp;omega)) ?_;simp only[E])
 (refine ux (v:=(.string (bs abx))) J (fun W hW=>by first|(go_simp;done)|(go_simp;omega)) ?_;simp only[E])
 (refine ux (v:=(.string (bs (s1++s2++s3++abx)))) J (fun W hW=>by first|(go_simp;done)|(go_simp;omega)) ?_;simp only[E])
 (refine ux (v:=(.int .i64 e)) J (fun W hW=>by first|(go_simp;done)|(go_simp;omega)) ?_;simp only[E])
 (refine ux (v:=(.string (bs (s1++s2++s3++abx)))) J (fun W hW=>by first|(go_simp;done)|(go_simp;omega)) ?_;simp only[E])
 (refine ux (v:=(.int .i64 e)) J (fun W hW=>by first|(go_simp;done)|(go_simp;omega)) ?_;simp only[E])
 exact rZ
theorem V9(T:Co)(uG:Int):∀(n:List (List UInt8)) (pre:List UInt8),(FJ T uG pre n).1.length<=pre.length+vB n+2
 |[],pre=>by simp[FJ,vB]
 |l::n,pre=>by
  cases h:look T (l::n)with
  |some q=>rw[Ie h];simp[uy]
  |none=>rw[KW h];have ih:=V9 T uG n (pre++zX l);rw[List.length_append,Fc]at ih;simp only[vB];omega
theorem xk(T:Option Co)(uG:Int)(n:List (List UInt8)):(vh T uG n).length<=300:=by
 cases T with
 |none=>
  unfold vh yS Py;dsimp only;split
  ·
   next h=>have:=(xj h).2;simp[wA];omega
  ·simp
 |some T=>
  unfold vh I6;dsimp only;split
  ·
   next h=>have:=(xj h).2;have:=V9 T uG n [];simp at this;omega
  ·simp
theorem UI(lo:Nat)(cs:List Value)(r:RR)(uG:Int)(p:Option Addr)(T:Option Co)(w0 w:World)(h:xJ w0 cs r)(h0:w0.heap.size<=lo)(hb0:al w0 w)(uw:lo<=w.heap.size)(hT:Ek lo w p T)(hf:zm T 800000)(ha0:0<=uG)(ha1:uG<=9000000)(ht:uE r.tg=0)(hm:uE r.ml=0):
  Calls prog 238 #[.agg cs.toArray,.int .i64 uG,.pointer p] w (Zu lo p (vh T uG r.tg++vh (vL T uG r.tg) (uG+(vh T uG r.tg).length) r.ml++r.Hh.flatMap (uA 4)) 0 (vL (vL T uG r.tg) (uG+(vh T uG r.tg).length) r.ml) w):=by
 obtain⟨An,cn,At,ct,Am,cm,hS,hr,hN,hTg,hMl,agn⟩:=h;have hl:cs.length=33:=iY;have L22:cs[22]?=some (.slice At r.tg.length ct):=oC;have L23:cs[23]?=some (.slice Am r.ml.length cm):=oB;have LN:Hid ((cs.drop 27).take 5=vi r.Hh):=Y bE;have hn5:=hr.2;clear hS hN agn hr;have s1l:=xk T uG r.tg;have s2l:=xk (vL T uG r.tg) (uG+(vh T uG r.tg).length) r.ml;have P1:=Y (fun w' (b:al w w')=>Is lo p T At ct r.tg uG w' (Nat.le_trans uw b.size) (hT.G b) ((hTg.G hb0).G b) (fun T' h=>Nat.le_trans (hf T' h) I));have P2:=Y (fun w' (b:Below lo w w') (ajx:lo<=w'.heap.size) (hT':Ek lo w' p (vL T uG r.tg))=>Is lo p (vL T uG r.tg) Am cm r.ml (uG+(vh T uG r.tg).length) w' ajx hT' (hMl.G (hb0.trans (b.mono h0))) (fun T' h=>Nat.le_trans ((hf.put uG r.tg) T' h) I));rw[ht]at P1;rw[hm]at P2;have hB0:Below w.heap.size w (w.alloc (.cells cs.toArray 119)):=gF;have Z:=F.new w 119 cs;have u22:=Z.M 22 L22;clear hT hf hTg hMl L22 ht hm hb0;generalize vL (vL T uG r.tg) (uG+(vh T uG r.tg).length) r.ml=T2 at*;generalize vh (vL T uG r.tg) (uG+(vh T uG r.tg).length) r.ml=s2 at*;generalize vh T uG r.tg=s1 at*;generalize vL T uG r.tg=T1 at*;generalize r.tg.length=ntg,r.ml.length=nml,r.Hh=Hh at*;obtain⟨out,aj4⟩:∃out,out=s1++s2++Hh.flatMap (uA 4):=gG;rw[<-aj4];have HO:=Y aj4;clear aj4;go_enter func238,ntmps238;go_wp2_with fail;refine(P1.out _ hB0).mono ?_;rintro _ w2 ⟨rfl,hT2,hB2⟩;have B2:=hB2.vj Z;have ty:AQ lo w w2:=(AQ.y9 hB0 uw).trans hB2;have ag4:lo<=w2.heap.size:=Nat.le_trans uw ty.1.size;have u23:=B2.M 23 L23;clear P1 u22 hB2 Z hB0 L23;go_wp2_with fail;refine(P2.out _ ty.1 ag4 hT2).mono ?_;rintro _ w3 ⟨rfl,hT3,hB3⟩;have B3:=hB3.vj B2;have HB3:AQ lo w w3:=ty.trans hB3;have age:lo<=w3.heap.size:=Nat.le_trans uw HB3.1.size;clear P2 u23 hB3 hT2 B2 ty ag4;obtain⟨n0,n1,n2,n3,n4,rfl⟩:∃n0 n1 n2 n3 n4,Hh=[n0,n1,n2,n3,n4]:=by
  match Hh,hn5 with
  |[a,b,c,d,e],_=>exact⟨a,b,c,d,e,J⟩
 clear hn5;have HLN:=LN.out;clear LN;have l0:=uy 4 n0;have l1:=uy 4 n1;have l2:=uy 4 n2;have l3:=uy 4 n3;have l4:=uy 4 n4;have Q0:=Y (fun w=>Fj n0 w);have Q1:=Y (fun w=>Fj n1 w);have Q2:=Y (fun w=>Fj n2 w);have Q3:=Y (fun w=>Fj n3 w);have Q4:=Y (fun w=>Fj n4 w);have HO:Hid (out=s1++s2++(uA 4 n0++(uA 4 n1++(uA 4 n2++(uA 4 n3++uA 4 n4))))):=Y bF;generalize uA 4 n0=q0 at*;generalize uA 4 n1=q1 at*;generalize uA 4 n2=q2 at*;generalize uA 4 n3=q3 at*;generalize uA 4 n4=q4 at*;have HL:=Y HLN;clear HLN;go_wp2_with(refine ur (.load 117 (.tmp 42)) J ?_;go_must(refine uu J _ _ J w.heap.size 27 J B3 5 I _ underlying117 J xf [.int .i64 n0,.int .i64 n1,.int .i64 n2,.int .i64 n3,.int .i64 n4] HL.out ?_));clear HL B3;have I0:∀w:World,(Instr.index 117 (.agg #[.int .i64 n0,.int .i64 n1,.int .i64 n2,.int .i64 n3,.int .i64 n4]) (.int .i64 0)).run prog w= .ok (.int .i64 n0) w:=fun _=>by kernel_rfl
 have I1:∀w:World,(Instr.index 117 (.agg #[.int .i64 n0,.int .i64 n1,.int .i64 n2,.int .i64 n3,.int .i64 n4]) (.int .i64 1)).run prog w= .ok (.int .i64 n1) w:=fun _=>by kernel_rfl
 have I2:∀w:World,(Instr.index 117 (.agg #[.int .i64 n0,.int .i64 n1,.int .i64 n2,.int .i64 n3,.int .i64 n4]) (.int .i64 2)).run prog w= .ok (.int .i64 n2) w:=fun _=>by kernel_rfl
 have I3:∀w:World,(Instr.index 117 (.agg #[.int .i64 n0,.int .i64 n1,.int .i64 n2,.int .i64 n3,.int .i64 n4]) (.int .i64 3)).run prog w= .ok (.int .i64 n3) w:=fun _=>by kernel_rfl
 have I4:∀w:World,(Instr.index 117 (.agg #[.int .i64 n0,.int .i64 n1,.int .i64 n2,.int .i64 n3,.int .i64 n4]) (.int .i64 4)).run prog w= .ok (.int .i64 n4) w:=fun _=>by kernel_rfl
 refine wp_loop_rounds 6 ?_;rw[rounds_succ];go_wp2_with fail;refine(Q0.out _).mono ?_;rintro _ w4 ⟨rfl,b4⟩;have HB4:AQ lo w w4:=HB3.trans (AQ.y9 b4 age);have hT4:=hT3.G b4;have agv:lo<=w4.heap.size:=Nat.le_trans uw HB4.1.size;clear Q0 I0 HB3 hT3 b4 age;go_wp2_with fail;rw[rounds_succ];go_wp2_with fail;refine(Q1.out _).mono ?_;rintro _ w5 ⟨rfl,b5⟩;have HB5:AQ lo w w5:=HB4.trans (AQ.y9 b5 agv);have hT5:=hT4.G b5;have ain:lo<=w5.heap.size:=Nat.le_trans uw HB5.1.size;clear Q1 I1 HB4 hT4 b5 agv;go_wp2_with fail;rw[rounds_succ];go_wp2_with fail;refine(Q2.out _).mono ?_;rintro _ w6 ⟨rfl,b6⟩;have HB6:AQ lo w w6:=HB5.trans (AQ.y9 b6 ain);have hT6:=hT5.G b6;have aiY:lo<=w6.heap.size:=Nat.le_trans uw HB6.1.size;clear Q2 I2 HB5 hT5 b6 ain;go_wp2_with fail;rw[rounds_succ];go_wp2_with fail;refine(Q3.out _).mono ?_;rintro _ w7 ⟨rfl,b7⟩;have HB7:AQ lo w w7:=HB6.trans (AQ.y9 b7 aiY);have hT7:=hT6.G b7;have asM:lo<=w7.heap.size:=Nat.le_trans uw HB7.1.size;clear Q3 I3 HB6 hT6 b7 aiY;go_wp2_with fail;rw[rounds_succ];go_wp2_with fail;refine(Q4.out _).mono ?_;rintro _ w8 ⟨rfl,b8⟩;have HB8:AQ lo w w8:=HB7.trans (AQ.y9 b8 asM);have hT8:=hT7.G b8;clear Q4 I4 HB7 hT7 b8 asM;go_wp2_with fail;rw[rounds_succ];go_wp2_with fail;go_ret2;exact⟨Ln bF,hT8,HB8⟩
theorem Zy(lo:Nat)(cs:List Value)(r:RR)(uG:Int)(p:Option Addr)(T:Option Co)(w0 w:World)(h:xJ w0 cs r)(h0:w0.heap.size<=lo)(hb0:al w0 w)(uw:lo<=w.heap.size)(hT:Ek lo w p T)(hf:zm T 800000)(ha0:0<=uG)(ha1:uG<=9000000)(hc:uN r=0)(z:uQ r.O r.N=6):
  Calls prog 210 #[.agg cs.toArray,.int .i64 uG,.pointer p] w (Zu lo p (vh T uG r.tg++vh (vL T uG r.tg) (uG+(vh T uG r.tg).length) r.ml++r.Hh.flatMap (uA 4)) 0 (vL (vL T uG r.tg) (uG+(vh T uG r.tg).length) r.ml) w):=by
 have hE:=(FT hc).2;have hE6:yC r=(if uE r.tg≠0 then uE r.tg else if uE r.ml≠0 then uE r.ml else if r.Hh.all (yo 4294967295)then 0 else 4):=hU;rw[hE6]at hE;have ht:uE r.tg=0:=by exact tD
 have hm:uE r.ml=0:=by exact sG
 have hw:=h.G hb0;have CK:=Y (fun w' (b:al w w')=>yK cs r w' (hw.G b));have hl:cs.length=33:=gI;have L1:cs[1]?=some (.int .i64 r.O):=gH;have L2:cs[2]?=some (.int .i64 r.N):=gH;have hb:=Y (fun w=>wB r.O r.N w);rw[hc]at CK;rw[z]at hb;have PT:=Y (fun w' (b:al w w')=>UI lo cs r uG p T w0 w' h h0 (um hb0 hb0.size b) (Nat.le_trans uw b.size) (hT.G b) hf ha0 ha1 ht hm);clear h hc z hE hE6 hT hf ht hm hw hb0;generalize vh T uG r.tg++vh (vL T uG r.tg) (uG+(vh T uG r.tg).length) r.ml++r.Hh.flatMap (uA 4)=out at*;generalize vL (vL T uG r.tg) (uG+(vh T uG r.tg).length) r.ml=T2 at*;generalize r.O=O,r.N=N at*;have B0:=F.new w 119 cs;have HB0:Below w.heap.size w (w.alloc (.cells cs.toArray 119)):=gF;go_enter func210,ntmps210;go_wp2_with(refine ur (.load 119 (.tmp 3)) J ?_;go_must(refine uu J _ _ J w.heap.size 0 J B0 33 I _ underlying119 J uU cs (wP I) ?_));go_wp2_with fail;refine(CK.out _ HB0).mono ?_;rintro _ w2 ⟨rfl,b2⟩;have B:=B0.G b2 B0.lt;have HB:=um HB0 HB0.size b2;clear B0 HB0 b2 CK;have u1:=B.M 1 L1;have u2:=B.M 2 L2;go_wp2_with fail;refine(hb.out _).mono ?_;rintro _ w3 ⟨rfl,rfl⟩;clear hb u1 u2 L1 L2;go_wp2_with(refine ur (.load 119 (.tmp 3)) J ?_;go_must(refine uu J _ _ J w.heap.size 0 J B 33 I _ underlying119 J uU cs (wP I) ?_));go_wp2_with fail;refine(PT.out _ HB).mono ?_;rintro _ w4 ⟨rfl,hT4,hB4⟩;clear PT;go_wp2_with fail;go_ret2;exact⟨J,hT4,(AQ.y9 HB uw).trans hB4⟩
def GY(T:Option Co)(uG:Int)(r:RR):List UInt8:=if uN r=0 then yT T uG r else[]
def GZ(T:Option Co)(uG:Int)(r:RR):Option Co:=if uN r=0 then El T uG r else T
theorem Zz(lo:Nat)(cs:List Value)(r:RR)(uG:Int)(p:Option Addr)(T:Option Co)(w0 w:World)(h:xJ w0 cs r)(h0:w0.heap.size<=lo)(hb0:al w0 w)(uw:lo<=w.heap.size)(hT:Ek lo w p T)(hf:zm T 800000)(ha0:0<=uG)(ha1:uG<=9000000):
  Calls prog 210 #[.agg cs.toArray,.int .i64 uG,.pointer p] w (Zu lo p (GY T uG r) (uN r) (GZ T uG r) w):=by
 have hw:=h.G hb0;by_cases hc:uN r=0
 ·
  unfold GY GZ;rw[if_pos hc,if_pos hc,hc];have hE:=(FT hc).2;rcases zQ r.O r.N with z|z|z|z|z|z
  ·refine(Oc cs r uG p w hw hc (.inl z)).mono ?_;exact qV
  ·refine(Oc cs r uG p w hw hc (.inr z)).mono ?_;exact qV
  ·have e1:yT T uG r=vh T uG r.tg:=kQ;have e2:El T uG r=vL T uG r.tg:=kU;have e3:uE r.tg=0:=jP;rw[e1,e2];have:=Xo lo cs r uG p T w hw uw hT (fun T' h=>Nat.le_trans (hf T' h) I) hc z;rwa[e3]at this
  ·
   refine(Zx cs r uG p w hw hc z).mono ?_;rintro _ w' ⟨rfl,hB⟩;have e1:yT T uG r=uA 2 r.pri++uA 2 r.we++uA 2 r.po++yS r.tg:=gY;have e2:El T uG r=T:=hI;have e3:uE r.tg=0:=by
    have e4:yC r=(if[r.pri,r.we,r.po].all (yo 65535)=true then uE r.tg else 4):=hU;rw[e4]at hE;split at hE
    ·exact hE
    ·cases hE
   rw[e1,e2,e3];exact rK
  ·have e1:yT T uG r=vh T uG r.tg++vh (vL T uG r.tg) (uG+(vh T uG r.tg).length) r.ml++r.Hh.flatMap (uA 4):=gY;have e2:El T uG r=vL (vL T uG r.tg) (uG+(vh T uG r.tg).length) r.ml:=hI;rw[e1,e2];exact Zy lo cs r uG p T w0 w h h0 hb0 uw hT hf ha0 ha1 hc z
  ·refine(Zw cs r uG p w hw hc z).mono ?_;rintro _ w' ⟨rfl,hB⟩;have e1:yT T uG r=r.raw:=gY;have e2:El T uG r=T:=hI;rw[e1,e2];exact rK
 ·unfold GY GZ;rw[if_neg hc,if_neg hc];refine(Zv cs r uG p w hw hc).mono ?_;rintro _ w' ⟨rfl,hB⟩;exact rK
end Go.Proofs.YthnbcmlnpdabhaaGreat
