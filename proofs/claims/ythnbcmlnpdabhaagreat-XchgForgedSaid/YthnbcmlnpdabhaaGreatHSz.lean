/-
  Layer 13 (rdata):has,an SOA;has of any record.
-/
import Derived.Test.YthnbcmlnpdabhaaGreatHRz
namespace Go.Proofs.YthnbcmlnpdabhaaGreat
open _root_.Go.Proofs.Tryz
set_option maxHeartbeats 8000000
open Go.RowKit
set_option maxRecDepth 100000
set_option linter.unusedVariables false
set_option linter.unusedSimpArgs false
variable {lo g:Nat} {w' w1:World} {t:TypeId}
theorem aef(vn:Value)(At Am:Option Addr)(ct cm:Nat)(r:RR)(hr:r.wf)(hn:vn.oneCell'=true)(w:World)(hT:xj w At ct r.tg)(hM:xj w Am cm r.ml)(O:uo r.E r.N=6):
  Calls prog 235 #[.agg (vy vn (.slice At r.tg.length ct) (.slice Am r.ml.length cm) r).toArray] w (uf (.tuple #[.agg (vy vn tS tS {r with tg:=[],ml:=[],h1:=[0,0,0,0,0]}).toArray,.int .i64 (if ze [r.tg,r.ml]≠0 then ze [r.tg,r.ml]else if r.h1.all (xN 4294967295)then 0 else 4)]) w):=by
 obtain⟨vt,hvt⟩:∃v,v=Value.slice At r.tg.length ct:=gp;have ht:vt.oneCell'=true:=nK;obtain⟨vm,hvm⟩:∃v,v=Value.slice Am r.ml.length cm:=gp;have hm:vm.oneCell'=true:=by rw[hvm];rfl
 rw[<-hvt,<-hvm];have HVT:=Y hvt;have HVM:=Y hvm;clear hvt hvm;have hl:=uP (vn:=vn) (vt:=vt) (vm:=vm) hr;have L1?:=KL (vn:=vn) (vt:=vt) (vm:=vm) (r:=r);have L2?:=KM (vn:=vn) (vt:=vt) (vm:=vm) (r:=r);have L22:=AQ (vn:=vn) (vt:=vt) (vm:=vm) hr;have L23:=Iu (vn:=vn) (vt:=vt) (vm:=vm) hr;have LN:=Y (Ep (vn:=vn) (vt:=vt) (vm:=vm) hr);have LZ:Hid (((vy vn vt vm r).set 22 tS).set 23 tS=vy vn tS tS r):=Y (by rw[Bo hr,Np hr]);have LS:=Y (Jl (vn:=vn) (vt:=tS) (vm:=tS) hr [0,0,0,0,0] J);change Hid (_=vy vn tS tS {r with tg:=[],ml:=[],h1:=[0,0,0,0,0]})at LS;have Lzl:=uP (vn:=vn) (vt:=tS) (vm:=tS) hr;have L1c:=Y (wj (r:=r) hn ht hm);have L4c:=Y (wj (vt:=tS) (vm:=tS) (r:={r with tg:=[],ml:=[],h1:=[0,0,0,0,0]}) hn J J);have L4l:=uP (vn:=vn) (vt:=tS) (vm:=tS) (r:={r with tg:=[],ml:=[],h1:=[0,0,0,0,0]}) ⟨hr.1,J⟩;have hb:=Y (fun w=>vL r.E r.N w);rw[O]at hb;have AN:=Y (fun w A h=>Gv A 2 [r.tg,r.ml] w h ap);have WI:=Y (fun w A h=>Cu 4294967295 A 5 r.h1 w h (by rw[hr.2];decide));have hn5:=hr.2;generalize vy vn tS tS {r with tg:=[],ml:=[],h1:=[0,0,0,0,0]}=L4 at*;generalize vy vn tS tS r=Lz at*;generalize vy vn vt vm r=L at*;generalize ze [r.tg,r.ml]=e at*;generalize hB3:r.h1.all (xN 4294967295)=b3 at*;clear hB3;generalize r.h1=h1,r.E=E,r.N=N at*;clear O;generalize aiD:(if e≠0 then e else if b3=true then 0 else 4)=res;have afY:=Y aiD;clear aiD;have B0:=Z.new w 119 L;go_enter func235,ntmps235;go_wp2_with(first
  |(refine tO (.load 119 (.tmp 1)) rfl ?_;go_must(refine tP rfl _ _ rfl w.heap.size 0 rfl (Z.alloc (Z.new w 119 L) _) 33 I _ underlying119 rfl uu L (wg I) ?_))
  |(refine tO (.store 119 (.tmp 4) (.tmp 6)) rfl (ab rfl (w.heap.size+1+1) 0 L (Z.vP _ _ vG _ ap) bi bj L1c.out ?_)))
 intro w3 hb3 hg3 hs3;have B1:Z w3 w.heap.size 119 L:=io;have B2:Z w3 (w.heap.size+1) 119 vG:=gY;have B4:Z w3 (w.heap.size+1+1) 119 L:=gH;have HB:al w w3:=gB;clear hb3 hg3 B0;have u1:=B1.K 1 L1?;have u2:=B1.K 2 L2?;clear L1? L2?;go_wp2_with fail;refine(hb.out _).mono ?_;rintro _ w4 ⟨rfl,rfl⟩;clear hb u1 u2;have u22:=B4.K 22 L22;have u23:=B4.K 23 L23;have f22:=B4.frozen 22;have f23:=B4.frozen 23;have B4s:=rrS (B4.set 22 tS) LZ.out;go_wp2_with(refine tO (.store 117 (.tmp 63) (.tmp 60)) J (ab J (w.heap.size+1+1) 27 (uF [0,0,0,0,0]) B4s (by rw[Lzl];decide) wE (by intro v hv;obtain⟨b,_,rfl⟩:=List.mem_map.1 hv;rfl) ?_));intro w5 hb5 hg5 hs5;have hne:w.heap.size≠w.heap.size+1+1:=I;have aia:w.heap.size+1≠w.heap.size+1+1:=I;have B1s:=((B1.yG (p:=⟨w.heap.size+1+1,22,none⟩) hne tS).yG (p:=⟨w.heap.size+1+1,23,none⟩) hne tS).grown hg5 (by simpa using hne);have B2s:=((B2.yG (p:=⟨w.heap.size+1+1,22,none⟩) aia tS).yG (p:=⟨w.heap.size+1+1,23,none⟩) aia tS).grown hg5 ap;have HB0:=((HB.setCell (p:=⟨w.heap.size+1+1,22,none⟩) az tS).setCell (p:=⟨w.heap.size+1+1,23,none⟩) az tS);have HBs:=tN HB0 hg5 HB0.size I;have B4z:Z w5 (w.heap.size+1+1) 119 L4:=by rw[<-LS.out,List.append_assoc];exact hb5
 clear B1 B2 B4 HB f22 f23 B4s HB0 hg5 hb5 LS LZ hs3 Lzl;have v22:=B1s.K 22 L22;have v23:=B1s.K 23 L23;clear L22 L23;have e1:=HVT.out;have e2:=HVM.out;clear HVT HVM;subst e1;subst e2;go_wp2_with fail;refine(AN.out _ _ (Hl.aeQ (hT.G HBs) (hM.G HBs) _ hs5.symm 26)).mono ?_;rintro _ w8 ⟨rfl,rfl⟩;clear AN v22 v23;have B1:=B1s.alloc (.cells #[.slice At r.tg.length ct,.slice Am r.ml.length cm] 26);have B2:=B2s.alloc (.cells #[.slice At r.tg.length ct,.slice Am r.ml.length cm] 26);have B4:=B4z.alloc (.cells #[.slice At r.tg.length ct,.slice Am r.ml.length cm] 26);have HB:=HBs.alloc HBs.size (.cells #[.slice At r.tg.length ct,.slice Am r.ml.length cm] 26);have hs4:(w5.alloc (.cells #[.slice At r.tg.length ct,.slice Am r.ml.length cm] 26)).heap.size=w.heap.size+1+1+1+1:=by simpa using hs5
 generalize w5.alloc (.cells #[.slice At r.tg.length ct,.slice Am r.ml.length cm] 26)=w4 at*;clear B1s B2s B4z HBs hs5;by_cases he:e=0
 ·
  subst he;have hr0:=afY.out;rw[if_neg ap]at hr0;have HW:=WI.out w4 _ (Hm.at B1 27 (by rw[hn5];exact LN.out));rw[hn5]at HW;clear WI afY;go_wp2_with fail;refine HW.mono ?_;rintro _ w8 ⟨rfl,rfl⟩;clear HW;cases b3 with
  |true=>
   have hr1:(0:Int)=res:=by simpa using hr0
   subst hr1;clear hr0;go_wp2_with(first
    |(refine tO (.load 119 (.tmp 4)) rfl ?_;go_must(refine tP rfl _ _ rfl (w.heap.size+1+1) 0 rfl B4 33 I _ underlying119 rfl uu L4 (wg I) ?_))
    |(refine tO (.store 119 (.tmp 2) (.tmp 79)) rfl (ab rfl (w.heap.size+1) 0 L4 B2 bi bp L4c.out ?_)))
   exact oK
  |false=>
   have hr1:(4:Int)=res:=by simpa using hr0
   subst hr1;clear hr0;go_wp2_with(first
    |(refine tO (.load 119 (.tmp 4)) rfl ?_;go_must(refine tP rfl _ _ rfl (w.heap.size+1+1) 0 rfl B4 33 I _ underlying119 rfl uu L4 (wg I) ?_))
    |(refine tO (.store 119 (.tmp 2) (.tmp 78)) rfl (ab rfl (w.heap.size+1) 0 L4 B2 bi bp L4c.out ?_)))
   exact oK
 ·
  have hr1:e=res:=by rw[<-afY.out,if_pos he]
  subst hr1;have he':(e !=0)=true:=iu;clear afY WI he;go_wp2_with(first
   |(refine tO (.load 119 (.tmp 4)) rfl ?_;go_must(refine tP rfl _ _ rfl (w.heap.size+1+1) 0 rfl B4 33 I _ underlying119 rfl uu L4 (wg I) ?_))
   |(refine tO (.store 119 (.tmp 2) (.tmp 72)) rfl (ab rfl (w.heap.size+1) 0 L4 B2 bi bp L4c.out ?_)))
  exact oK
def acX(r:RR)(w:World):Ending->World->Prop:=fun e w'=>∃cs,e= .returned (.tuple #[.agg cs.toArray,.int .i64 (yd r)])/\xd w' cs (xE r)/\al w w'
theorem xj.nil(w:World):xj w none 0 []:=⟨fun h=>absurd h ap,ap,ap,ap⟩
theorem zr(E N:Int):uo E N=1\/uo E N=28\/(uo E N=5\/uo E N=12)\/uo E N=33\/uo E N=6\/uo E N=0:=by
 unfold uo;by_cases h:N=1/\(E=1\/E=28\/E=5\/E=12\/E=33\/E=6)
 ·rw[if_pos h];obtain⟨_,h|h|h|h|h|h⟩:=h<;>simp[h]
 ·rw[if_neg h];simp
theorem aa2(cs:List Value)(r:RR)(w:World)(h:xd w cs r):Calls prog 235 #[.agg cs.toArray] w (acX r w):=by
 obtain⟨An,cn,At,ct,Am,cm,rfl,hr,hN,hT,hM,afB⟩:=h;rcases zr r.E r.N with O|O|O|O|O|O
 ·refine(aeb _ _ _ r hr J J J w O).mono ?_;rintro _ w' ⟨rfl,hB⟩;refine⟨_,by rw[yd,if_pos O];rfl,?_,hB⟩;rw[xE,if_pos (.inl O)];exact rV
 ·refine(acV _ _ _ r hr J J J w O).mono ?_;rintro _ w' ⟨rfl,hB⟩;refine⟨_,by rw[yd,if_neg I,if_pos O];rfl,?_,hB⟩;rw[xE,if_pos (.inr O)];exact rV
 ·refine(aed _ _ At ct r hr J J w hT O).mono ?_;rintro _ w' ⟨rfl,hB⟩;refine⟨_,by rw[yd,if_neg I,if_neg I,if_pos O],?_,hB⟩;rw[xE,if_neg I,if_pos O];exact sm
 ·refine(acW _ _ At ct r hr J J w hT O).mono ?_;rintro _ w' ⟨rfl,hB⟩;have e:(if[r.pri,r.we,r.po].all (xN 65535)=true then tY r.tg else 4)=yd r:=gS;refine⟨_,by rw[e],?_,hB⟩;rw[xE,if_neg I,if_neg I,if_pos O];exact sm
 ·
  refine(aef _ At Am ct cm r hr J w hT hM O).mono ?_;rintro _ w' ⟨rfl,hB⟩;have e:(if ze [r.tg,r.ml]≠0 then ze [r.tg,r.ml]else if r.h1.all (xN 4294967295)=true then 0 else 4)=yd r:=by
   have e0:yd r=(if tY r.tg≠0 then tY r.tg else if tY r.ml≠0 then tY r.ml else if r.h1.all (xN 4294967295)then 0 else 4):=gS;rw[e0];simp only[ze];by_cases U:tY r.tg=0
   ·by_cases X:tY r.ml=0<;>simp[U,X]
   ·simp[U]
  refine⟨_,by rw[e],?_,hB⟩;rw[xE,if_neg I,if_neg I,if_neg I,if_pos O];exact⟨An,cn,none,0,none,0,J,⟨hr.1,J⟩,hN.G hB,xj.nil _,xj.nil _,afB⟩
 ·refine(aee _ _ _ r hr J J J w afB O).mono ?_;rintro _ w' ⟨rfl,hB⟩;have e:(if 65535<r.raw.length then(3:Int)else 0)=yd r:=gS;refine⟨_,by rw[e],?_,hB⟩;rw[xE,if_neg I,if_neg I,if_neg I,if_neg I];exact⟨An,cn,At,ct,Am,cm,J,hr,hN.G hB,hT.G hB,hM.G hB,ap⟩
theorem YC(a:uV)(ha:a.ip.length=16)(w:World):(Op.equalIn 10000 24 (.agg a.cells.toArray) (.agg #[.int .i64 0,.int .u8 0,.int .u8 0,.int .u8 0,.int .u8 0,.int .u8 0,.int .u8 0,.int .u8 0,.int .u8 0,.int .u8 0,.int .u8 0,.int .u8 0,.int .u8 0,.int .u8 0,.int .u8 0,.int .u8 0,.int .u8 0,.int .i64 0])).run prog w= .ok (decide (a=uV.zero)) w:=
 Hf a uV.zero ha J w
theorem YD(l:List Int)(hl:l.length=5)(w:World):(Op.equalIn 10000 117 (.agg (uF l).toArray) (.agg #[.int .i64 0,.int .i64 0,.int .i64 0,.int .i64 0,.int .i64 0])).run prog w= .ok (l==[0,0,0,0,0]) w:=
 yP w 9998 117 3 5 .i64 underlying117 underlying3 Qi l [0,0,0,0,0] hl J
theorem OR(n:Int):(n !=0)=!decide (n=0):=by by_cases h:n=0<;>simp[h]
theorem uC{P:Program}{ops:Array Oper}{rest:List Oper}{op:Oper}{a:Act}{w:World}{Q:Exit->Act->World->Prop}(hw:Region.wanted op (yielded ops a.tmps)=true)(E:TypeId)(x:Operand)(ho:op.op= .load E x)
  (g o:Nat) (hx:a.eval x= .pointer (some ⟨g,o,none⟩)) {t:TypeId} {L:List Value} (F:Z w g t L) (n:Nat) (hn:o+n<=L.length) (d:TypeDesc)
  (hu:P.underlying E=some d) (hd:d.isRow=true) (hi:(P.info? E).map (·.size)=some n) (sub:List Value) (afE:(L.drop o).take n=sub)
  (h:wpList P ops Q rest (a.put op.dst (.agg sub.toArray)) w):wpList P ops Q (op::rest) a w:=by
 have hl:sub.length=n:=kG;refine wpList_step fun hb hK=>?_
 rw[if_pos hw];exact wp_load_mid E x ho g o hx sub d (afE▸F.range o n hn) hu hd aD (hK _ _ h)
theorem ym(cs:List Value)(r:RR)(w:World)(h:xd w cs r):Calls prog 205 #[.agg cs.toArray] w (uf (.int .i64 (uk r)) w):=by
 have hh:=h;obtain⟨An,cn,At,ct,Am,cm,hcs,hr,hN,hT,hM,afB⟩:=h;have hl:cs.length=33:=iQ;have L0:cs[0]?=some (.slice An r.name.length cn):=bI;have L1:cs[1]?=some (.int .i64 r.E):=bI;have L2:cs[2]?=some (.int .i64 r.N):=bI;have L3:cs[3]?=some (.int .i64 r.ak):=bI;clear hcs;have hB0:Below w.heap.size w (w.alloc (.cells cs.toArray 119)):=gj;have F:=Z.new w 119 cs;have HH:=Y (fun w' (b:al w w')=>aa2 cs r w' (hh.G b));have CN:=Y (fun w' (b:al w w')=>zc An cn r.name w' (hN.G b).1 bu);have W1:=Y (fun w A h=>Cu 65535 A 2 [r.E,r.N] w h ap);have W2:=Y (fun w A h=>Cu 4294967295 A 1 [r.ak] w h ap);have HE:Hid (uk r=_):=Y (by unfold uk;rfl);generalize uk r=res at*;generalize r.E=E,r.N=N,r.ak=ak at*;generalize tY r.name=e0 at*;generalize[E,N].all (xN 65535)=b1 at*;have w2e:[ak].all (xN 4294967295)=xN 4294967295 ak:=ap;rw[w2e]at W2;clear w2e;generalize xN 4294967295 ak=b2 at*;have u0:=F.K 0 L0;have u1:=F.K 1 L1;have u2:=F.K 2 L2;have u3:=F.K 3 L3;clear L0 L1 L2 hN hT hM afB;go_enter func205,ntmps205;go_wp2_with fail;refine(CN.out _ hB0).mono ?_;rintro _ w1 ⟨rfl,rfl⟩;clear CN;by_cases h0:e0=0
 case neg=>have hr0:=HE.out;rw[if_pos h0]at hr0;subst hr0;have h0':(res !=0)=true:=kj;clear HE h0;exact qX
 subst h0;have HE1:=Y (HE.out.trans (if_neg ap));clear HE;generalize hw1:w.alloc (.cells cs.toArray 119)=w1 at*;have hs1:w1.heap.size=w.heap.size+1:=by rw[<-hw1];simp
 clear hw1;go_wp2_with fail;refine(W1.out _ _ (Hm.new [E,N] _ hs1.symm 3)).mono ?_;rintro _ w2 ⟨rfl,rfl⟩;clear W1;have hB1:=hB0.alloc hB0.size (.cells (uF [E,N]).toArray 3);have hb1:=F.alloc (.cells (uF [E,N]).toArray 3);have hs2:(w1.alloc (.cells (uF [E,N]).toArray 3)).heap.size=w.heap.size+1+1:=by simp[hs1]
 generalize w1.alloc (.cells (uF [E,N]).toArray 3)=w2 at*;clear hB0 F hs1;cases b1 with
 |false=>have hr0:=HE1.out;rw[if_pos (.inl ap)]at hr0;subst hr0;clear HE1;go_wp2_with fail;go_ret;exact uf.mk J hB1
 |true=>
 have u3:=hb1.K 3 L3;clear L3;go_wp2_with fail;refine(W2.out _ _ (Hm.new [ak] _ hs2.symm 3)).mono ?_;rintro _ w3 ⟨rfl,rfl⟩;clear W2;have hB2:=hB1.alloc hB1.size (.cells (uF [ak]).toArray 3);have hb2:=hb1.alloc (.cells (uF [ak]).toArray 3);generalize w2.alloc (.cells (uF [ak]).toArray 3)=w3 at*;clear hB1 hb1 hs2 u3;cases b2 with
 |false=>have hr0:=HE1.out;rw[if_pos (.inr ap)]at hr0;subst hr0;clear HE1;go_wp2_with fail;go_ret;exact uf.mk J hB2
 |true=>
 have HE2:=Y (HE1.out.trans (if_neg ap));clear HE1;go_wp2_with(refine tO (.load 119 (.tmp 1)) J ?_;go_must(refine tP J _ _ J w.heap.size 0 J hb2 33 I _ underlying119 J uu cs (wg I) ?_));go_wp2_with fail;refine(HH.out _ hB2).mono ?_;rintro _ w4 ⟨cs4,rfl,hR4,asT⟩;have hB4:=tL hB2 hB2.size asT;clear HH asT hb2 hB2 hl hh;obtain⟨An4,cn4,At4,ct4,Am4,cm4,ahB,hr4,hN4,hT4,hM4,aAx⟩:=hR4;generalize xE r=r4 at*;have hl4:cs4.length=33:=by rw[ahB];exact uP hr4
 have M22:cs4[22]?=some (.slice At4 r4.tg.length ct4):=by rw[ahB];exact AQ hr4
 have M23:cs4[23]?=some (.slice Am4 r4.ml.length cm4):=by rw[ahB];exact Iu hr4
 have M24:cs4[24]?=some (.int .i64 r4.pri):=by rw[ahB];exact Iv hr4
 have M25:cs4[25]?=some (.int .i64 r4.we):=by rw[ahB];exact Iw hr4
 have M26:cs4[26]?=some (.int .i64 r4.po):=by rw[ahB];exact Ix hr4
 have M32:cs4[32]?=some (.string (bs r4.raw)):=by rw[ahB];exact Iy hr4
 have LA:Hid ((cs4.drop 4).take 18=r4.ad.cells):=Y (by rw[ahB];exact Cd hr4);have LN:Hid ((cs4.drop 27).take 5=uF r4.h1):=Y (by rw[ahB];exact Ep hr4);have L1c:Hid (∀v∈cs4,v.oneCell'=true):=Y (by rw[ahB];exact wj J J J);clear ahB;have EA:=YC r4.ad hr4.1;have EN:=YD r4.h1 hr4.2;have tb:=hT4.2.2.1;have mb:=hM4.2.2.1;clear hN4 hT4 hM4;have HE3:Hid (res=if yd r≠0 then yd r else if zW r4 then 0 else 5):=HE2;clear HE2;generalize yd r=e1 at*;go_wp2_with(refine tO (.store 119 (.tmp 4) (.tmp 29)) J (ab J w4.heap.size 0 cs4 (Z.vP _ _ vG _ ap) bi (by rw[hl4];exact uu) L1c.out ?_));intro w5 hb5 hg5 hs5;rw[List.drop_of_length_le bi,List.append_nil]at hb5;have B4:=hb5;have hB5:al w w5:=tN (hB4.alloc hB4.size _) hg5 (by have:=hB4.size;simp;omega) hB4.size;clear hb5 hg5 hB4 L1c hr hs5;by_cases U:e1=0
 case neg=>have hr0:=HE3.out;rw[if_pos U]at hr0;subst hr0;have h0':(res !=0)=true:=il;clear HE3 U EA EN M22 M23 M24 M25 M26 M32;go_wp2_with fail;exact qH
 subst U;have HE4:=HE3.out.trans (if_neg ap);clear HE3;have c22:=B4.K 22 M22;have c23:=B4.K 23 M23;have c24:=B4.K 24 M24;have c25:=B4.K 25 M25;have c26:=B4.K 26 M26;have c32:=B4.K 32 M32;clear M22 M23 M24 M25 M26 M32;have q1:decide (r4.tg=[])=true↔r4.tg.length=0:=ap;have q2:decide (r4.ml=[])=true↔r4.ml.length=0:=ap;have q3:=OR r4.pri;have q4:=OR r4.we;have q5:=OR r4.po;have q6:(r4.h1==[0,0,0,0,0])=decide (r4.h1=[0,0,0,0,0]):=by by_cases h:r4.h1=[0,0,0,0,0]<;>simp[h]
 have q7:decide (r4.raw=[])=true↔r4.raw=[]:=ap;rw[q6]at EN;clear q6;unfold zW at HE4;generalize decide (r4.ad=uV.zero)=bA at*;generalize decide (r4.tg=[])=bT at*;generalize decide (r4.ml=[])=bM at*;generalize decide (r4.pri=0)=bP at*;generalize decide (r4.we=0)=bW at*;generalize decide (r4.po=0)=bO at*;generalize decide (r4.h1=[0,0,0,0,0])=bN at*;generalize decide (r4.raw=[])=bR at*;generalize r4.ad.cells=LAd at*;generalize uF r4.h1=LNs at*;generalize r4.pri=pri,r4.we=we at*;generalize r4.po=po,r4.tg.length=n1 at*;generalize r4.ml.length=n2,r4.raw=raw at*;have HE5:=Y HE4;clear HE4 hr4;cases bA with
 |false=>
  have hr0:res=5:=im;subst hr0;clear HE5 q1 q2 q3 q4 q5 q7;go_wp2_with(first
   |(refine tO (.load 24 (.tmp 34)) rfl ?_;go_must(refine tP rfl _ _ rfl w4.heap.size 4 rfl B4 18 I _ underlying24 rfl vR LAd LA.out ?_))
   |(refine tO (.load 117 (.tmp 66)) rfl ?_;refine uC (by kernel_rfl) 117 (.tmp 66) rfl w4.heap.size 27 rfl B4 5 I _ underlying117 rfl wE LNs LN.out ?_))
  exact qH
 |true=>
 cases bT with
 |false=>
  have hr0:res=5:=im;subst hr0;have p1:0<n1:=by simp at q1;omega
  have p2:(0:Int)<n1:=I;clear HE5 q1 q2 q3 q4 q5 q7;go_wp2_with(first
   |(refine tO (.load 24 (.tmp 34)) rfl ?_;go_must(refine tP rfl _ _ rfl w4.heap.size 4 rfl B4 18 I _ underlying24 rfl vR LAd LA.out ?_))
   |(refine tO (.load 117 (.tmp 66)) rfl ?_;refine uC (by kernel_rfl) 117 (.tmp 66) rfl w4.heap.size 27 rfl B4 5 I _ underlying117 rfl wE LNs LN.out ?_))
  exact qH
 |true=>
 obtain rfl:=q1.1 J;clear q1;cases bM with
 |false=>
  have hr0:res=5:=im;subst hr0;have p1:0<n2:=by simp at q2;omega
  have p2:(0:Int)<n2:=I;clear HE5 q2 q3 q4 q5 q7;go_wp2_with(first
   |(refine tO (.load 24 (.tmp 34)) rfl ?_;go_must(refine tP rfl _ _ rfl w4.heap.size 4 rfl B4 18 I _ underlying24 rfl vR LAd LA.out ?_))
   |(refine tO (.load 117 (.tmp 66)) rfl ?_;refine uC (by kernel_rfl) 117 (.tmp 66) rfl w4.heap.size 27 rfl B4 5 I _ underlying117 rfl wE LNs LN.out ?_))
  exact qH
 |true=>
 obtain rfl:=q2.1 J;clear q2;cases bP with
 |false=>
  have hr0:res=5:=im;subst hr0;simp only[Bool.not_false]at q3;clear HE5 q4 q5 q7;go_wp2_with(first
   |(refine tO (.load 24 (.tmp 34)) rfl ?_;go_must(refine tP rfl _ _ rfl w4.heap.size 4 rfl B4 18 I _ underlying24 rfl vR LAd LA.out ?_))
   |(refine tO (.load 117 (.tmp 66)) rfl ?_;refine uC (by kernel_rfl) 117 (.tmp 66) rfl w4.heap.size 27 rfl B4 5 I _ underlying117 rfl wE LNs LN.out ?_))
  exact qH
 |true=>
 cases bW with
 |false=>
  have hr0:res=5:=im;subst hr0;simp only[Bool.not_false,Bool.not_true]at q3 q4;clear HE5 q5 q7;go_wp2_with(first
   |(refine tO (.load 24 (.tmp 34)) rfl ?_;go_must(refine tP rfl _ _ rfl w4.heap.size 4 rfl B4 18 I _ underlying24 rfl vR LAd LA.out ?_))
   |(refine tO (.load 117 (.tmp 66)) rfl ?_;refine uC (by kernel_rfl) 117 (.tmp 66) rfl w4.heap.size 27 rfl B4 5 I _ underlying117 rfl wE LNs LN.out ?_))
  exact qH
 |true=>
 cases bO with
 |false=>
  have hr0:res=5:=im;subst hr0;simp only[Bool.not_false,Bool.not_true]at q3 q4 q5;clear HE5 q7;go_wp2_with(first
   |(refine tO (.load 24 (.tmp 34)) rfl ?_;go_must(refine tP rfl _ _ rfl w4.heap.size 4 rfl B4 18 I _ underlying24 rfl vR LAd LA.out ?_))
   |(refine tO (.load 117 (.tmp 66)) rfl ?_;refine uC (by kernel_rfl) 117 (.tmp 66) rfl w4.heap.size 27 rfl B4 5 I _ underlying117 rfl wE LNs LN.out ?_))
  exact qH
 |true=>
 cases bN with
 |false=>
  have hr0:res=5:=im;subst hr0;simp only[Bool.not_true]at q3 q4 q5;clear HE5 q7;go_wp2_with(first
   |(refine tO (.load 24 (.tmp 34)) rfl ?_;go_must(refine tP rfl _ _ rfl w4.heap.size 4 rfl B4 18 I _ underlying24 rfl vR LAd LA.out ?_))
   |(refine tO (.load 117 (.tmp 66)) rfl ?_;refine uC (by kernel_rfl) 117 (.tmp 66) rfl w4.heap.size 27 rfl B4 5 I _ underlying117 rfl wE LNs LN.out ?_))
  exact qH
 |true=>
 cases bR with
 |false=>
  have hr0:res=5:=im;subst hr0;simp only[Bool.not_true]at q3 q4 q5;have p1:raw≠[]:=by simpa using q7
  have p2:raw.isEmpty=false:=by simpa using p1
  clear HE5 q7;go_wp2_with(first
   |(refine tO (.load 24 (.tmp 34)) rfl ?_;go_must(refine tP rfl _ _ rfl w4.heap.size 4 rfl B4 18 I _ underlying24 rfl vR LAd LA.out ?_))
   |(refine tO (.load 117 (.tmp 66)) rfl ?_;refine uC (by kernel_rfl) 117 (.tmp 66) rfl w4.heap.size 27 rfl B4 5 I _ underlying117 rfl wE LNs LN.out ?_))
  exact qH
 |true=>
  have hr0:res=0:=im;subst hr0;simp only[Bool.not_true]at q3 q4 q5;obtain rfl:=q7.1 J;clear HE5 q7;go_wp2_with(first
   |(refine tO (.load 24 (.tmp 34)) rfl ?_;go_must(refine tP rfl _ _ rfl w4.heap.size 4 rfl B4 18 I _ underlying24 rfl vR LAd LA.out ?_))
   |(refine tO (.load 117 (.tmp 66)) rfl ?_;refine uC (by kernel_rfl) 117 (.tmp 66) rfl w4.heap.size 27 rfl B4 5 I _ underlying117 rfl wE LNs LN.out ?_))
  exact qH
abbrev Bp:=List (List (List UInt8)×Nat)
def DF(lo:Nat)(w:World)(p:Option Addr):Option Bp->Prop
 |none=>p=none
 |some T=>∃g b,p=some ⟨g,0,none⟩/\lo<=g/\lo<=b/\AY w g b T
def uE(T:Option Bp)(ud:Int)(n:List (List UInt8)):List UInt8:=match T with
 |none=>yw n
 |some T=>It T ud n
def vf(T:Option Bp)(ud:Int)(n:List (List UInt8)):Option Bp:=T.map fun T=>JH T ud n
def yQ(T:Option Bp)(k:Nat):Prop:=∀T',T=some T'->T'.length<=k
theorem yQ.put{T:Option Bp}{k:Nat}(h:yQ T k)(ud:Int)(n:List (List UInt8)):yQ (vf T ud n) (k+254):=by
 intro T' hT';cases T with
 |none=>cases hT'
 |some T=>
  obtain rfl:JH T ud n=T':=by simpa[vf]using hT'
  have:=h T J;have:=Qs T ud n;omega
theorem DF.G{w:World}{p:Option Addr}{T:Option Bp}(h:DF lo w p T)(F:al w w'):DF lo w' p T:=by
 cases T with
 |none=>exact h
 |some T=>obtain⟨g,b,U,X,h3,h4⟩:=h;exact⟨g,b,U,X,h3,h4.G F⟩
def zT(lo:Nat)(w w':World):Prop:=Below lo w w'/\∀(g:Nat) (t:TypeId) (cs:Array Value) (fz:Nat×Nat),w.heap[g]?=some (.cells cs t fz)->w'.heap[g]?=some (.cells cs t fz)
theorem zT.uG{w:World}(h:zT lo w w'){cs:List Value}(F:Z w g t cs):Z w' g t cs:=h.2 g t cs.toArray (0,0) F
theorem zT.trans{w w2:World}(h:zT lo w w1)(h':zT lo w1 w2):zT lo w w2:=⟨h.1.trans h'.1,fun g t cs fz F=>h'.2 g t cs fz (h.2 g t cs fz F)⟩
theorem OS{w:World}{o:Obj}(h:w.heap[g]?=some o):g<w.heap.size:=(Array.getElem?_eq_some_iff.1 h).1
theorem zT.zq{w:World}(h:al w w1)(tK:lo<=w.heap.size):zT lo w w1:=⟨h.mono tK,fun g t cs fz F=>(h.block g (OS F)).trans F⟩
def YE(lo:Nat)(p:Option Addr)(s:List UInt8)(e:Int)(T:Option Bp)(w:World)(x:Ending)(w':World):Prop:=
 x= .returned (.tuple #[.string (bs s),.int .i64 e])/\DF lo w' p T/\zT lo w w'
theorem Hn(lo:Nat)(p:Option Addr)(T:Option Bp)(A:Option Addr)(c:Nat)(n:List (List UInt8))(ud:Int)(w:World)(tK:lo<=w.heap.size)(hT:DF lo w p T)(hA:xj w A c n)(hf:yQ T 900000):
  Calls prog 236 #[.pointer p,.slice A n.length c,.int .i64 ud] w (YE lo p (uE T ud n) (tY n) (vf T ud n) w):=by
 cases T with
 |none=>obtain rfl:p=none:=hT;refine(KK A c n ud w hA).mono ?_;rintro _ w' ⟨rfl,hB⟩;exact⟨J,J,zT.zq hB tK⟩
 |some T=>
  obtain⟨g,b,rfl,X,h3,h4⟩:=hT;refine(Tt g b T A c n ud w h4 hA (hf T J)).mono ?_;rintro _ w' ⟨rfl,h5,h6⟩;have hne:∀(k:Nat) (t:TypeId) (cs:Array Value) (fz:Nat×Nat),w.heap[k]?=some (.cells cs t fz)->some k≠some b:=by obtain⟨_,⟨f,⟨D,⟨es,N,hm,_⟩,_⟩,_⟩,_⟩:=h4;intro k t cs fz F he;obtain rfl:=Option.some.inj he;rw[F]at hm;cases hm
  exact⟨J,⟨g,b,J,X,h3,h5⟩,tN (Below.refl _ _) h6 tK h3,fun k t cs fz F=>(h6.block k (OS F) (hne k t cs fz F)).trans F⟩
def yx(T:Option Bp)(ud:Int)(r:RR):List UInt8:=
 if uo r.E r.N=1 then r.ad.ip.take 4
 else if uo r.E r.N=28 then r.ad.ip
 else if uo r.E r.N=5\/uo r.E r.N=12 then uE T ud r.tg
 else if uo r.E r.N=33 then tT 2 r.pri++tT 2 r.we++tT 2 r.po++yw r.tg
 else if uo r.E r.N=6 then uE T ud r.tg++uE (vf T ud r.tg) (ud+(uE T ud r.tg).length) r.ml++r.h1.flatMap (tT 4)
 else r.raw
def DG(T:Option Bp)(ud:Int)(r:RR):Option Bp:=
 if uo r.E r.N=5\/uo r.E r.N=12 then vf T ud r.tg
 else if uo r.E r.N=6 then vf (vf T ud r.tg) (ud+(uE T ud r.tg).length) r.ml
 else T
theorem Fc{r:RR}(h:uk r=0):tY r.name=0/\yd r=0:=by
 unfold uk at h;by_cases U:tY r.name=0
 ·
  refine⟨U,?_⟩;rw[if_neg bC]at h;split at h
  ·omega
  ·
   by_cases X:yd r=0
   ·exact X
   ·rw[if_pos X]at h;exact h
 ·exact sX
theorem YF(cs:List Value)(r:RR)(ud:Int)(p:Option Addr)(w:World)(h:xd w cs r)(hc:uk r≠0):
  Calls prog 210 #[.agg cs.toArray,.int .i64 ud,.pointer p] w (uf (.tuple #[.string (bs []),.int .i64 (uk r)]) w):=by
 have CK:=Y (fun w' (b:al w w')=>ym cs r w' (h.G b));have hl:cs.length=33:=gv;generalize uk r=e at*;have he:(e !=0)=true:=iK;clear hc h;have B0:=Z.new w 119 cs;have HB0:Below w.heap.size w (w.alloc (.cells cs.toArray 119)):=gj;go_enter func210,ntmps210;exact pE
theorem YG(cs:List Value)(r:RR)(ud:Int)(p:Option Addr)(w:World)(h:xd w cs r)(hc:uk r=0)(O:uo r.E r.N=0):
  Calls prog 210 #[.agg cs.toArray,.int .i64 ud,.pointer p] w (uf (.tuple #[.string (bs r.raw),.int .i64 0]) w):=by
 have CK:=Y (fun w' (b:al w w')=>ym cs r w' (h.G b));have hl:cs.length=33:=gv;have L1:cs[1]?=some (.int .i64 r.E):=gu;have L2:cs[2]?=some (.int .i64 r.N):=gu;have L32:cs[32]?=some (.string (bs r.raw)):=jP;have hb:=Y (fun w=>vL r.E r.N w);rw[O]at hb;rw[hc]at CK;clear h hc O;generalize r.E=E,r.N=N at*;have B0:=Z.new w 119 cs;have HB0:Below w.heap.size w (w.alloc (.cells cs.toArray 119)):=gj;go_enter func210,ntmps210;go_wp2_with(refine tO (.load 119 (.tmp 3)) J ?_;go_must(refine tP J _ _ J w.heap.size 0 J B0 33 I _ underlying119 J uu cs (wg I) ?_));go_wp2_with fail;refine(CK.out _ HB0).mono ?_;rintro _ w2 ⟨rfl,b2⟩;have B:=B0.G b2 B0.lt;have HB:=tL HB0 HB0.size b2;clear B0 HB0 b2 CK;have u1:=B.K 1 L1;have u2:=B.K 2 L2;go_wp2_with fail;refine(hb.out _).mono ?_;rintro _ w3 ⟨rfl,rfl⟩;have u32:=B.K 32 L32;clear hb u1 u2 L1 L2 L32;exact pV
theorem Wi(lo:Nat)(cs:List Value)(r:RR)(ud:Int)(p:Option Addr)(T:Option Bp)(w:World)(h:xd w cs r)(tK:lo<=w.heap.size)(hT:DF lo w p T)(hf:yQ T 900000)(hc:uk r=0)(O:uo r.E r.N=5\/uo r.E r.N=12):
  Calls prog 210 #[.agg cs.toArray,.int .i64 ud,.pointer p] w (YE lo p (uE T ud r.tg) (tY r.tg) (vf T ud r.tg) w):=by
 have CK:=Y (fun w' (b:al w w')=>ym cs r w' (h.G b));have hl:cs.length=33:=gv;have L1:cs[1]?=some (.int .i64 r.E):=gu;have L2:cs[2]?=some (.int .i64 r.N):=gu;obtain⟨At,ct,L22,hR⟩:∃At ct,cs[22]?=some (.slice At r.tg.length ct)/\xj w At ct r.tg:=by exact qN
 have hb:=Y (fun w=>vL r.E r.N w);rw[hc]at CK;clear h hc;have PT:=Y (fun w' (b:al w w')=>Hn lo p T At ct r.tg ud w' (Nat.le_trans tK b.size) (hT.G b) (hR.G b) hf);generalize uE T ud r.tg=s at*;generalize vf T ud r.tg=T' at*;generalize tY r.tg=e at*;generalize r.tg.length=n at*;generalize uo r.E r.N=k at*;generalize r.E=E,r.N=N at*;clear hT hf hR;rcases O with rfl|rfl;all_goals
  have B0:=Z.new w 119 cs;have HB0:Below w.heap.size w (w.alloc (.cells cs.toArray 119)):=gj;go_enter func210,ntmps210;go_wp2_with(refine tO (.load 119 (.tmp 3)) J ?_;go_must(refine tP J _ _ J w.heap.size 0 J B0 33 I _ underlying119 J uu cs (wg I) ?_));go_wp2_with fail;refine(CK.out _ HB0).mono ?_;rintro _ w2 ⟨rfl,b2⟩;have B:=B0.G b2 B0.lt;have HB:=tL HB0 HB0.size b2;clear B0 HB0 b2 CK;have u1:=B.K 1 L1;have u2:=B.K 2 L2;go_wp2_with fail;refine(hb.out _).mono ?_;rintro _ w3 ⟨rfl,rfl⟩;have u22:=B.K 22 L22;clear hb u1 u2 L1 L2 L22;go_wp2_with fail;refine(PT.out _ HB).mono ?_;rintro _ w3 ⟨rfl,hT3,hB3⟩;go_wp2_with fail;go_ret2;exact⟨J,hT3,(zT.zq HB tK).trans hB3⟩
theorem acY{vn vt vm:Value}{r:RR}(h:r.wf)(j:Nat)(hj:j<r.ad.ip.length):(vy vn vt vm r)[5+j]?=some (.int .u8 (r.ad.ip[j].toNat:Int)):=by
 have h16:=h.1;have e:((vy vn vt vm r).drop 4).take 18=r.ad.cells:=Cd h;have e1:(((vy vn vt vm r).drop 4).take 18)[1+j]?=(vy vn vt vm r)[5+j]?:=by rw[List.getElem?_take_of_lt I,List.getElem?_drop];congr 1;omega
 rw[<-e1,e,uV.cells,Nat.add_comm 1 j,List.getElem?_cons_succ,List.getElem?_append_left (by rw[vB];exact hj),C9 _ _ hj]
theorem J0{w:World}{o:Nat}{L:List Value}(h:Z w g t L)(q:List UInt8)(cap:Nat)(hq:∀j (hj:j<q.length),L[o+j]?=some (.int .u8 (q[j].toNat:Int))):
  (convert 145 9 (.slice (some ⟨g,o,none⟩) q.length cap)).run prog w= .ok (.string (bs q)) w:=
 run_convert_bytes_back w 145 9 5 ⟨g,o,none⟩ cap q underlying145 underlying5 underlying9 fun j hj=>by
  have U:=h.K (o+j) (hq j hj);cases j with
  |zero=>exact U
  |succ j=>exact U
theorem Ns(cs:List Value)(r:RR)(ud:Int)(p:Option Addr)(w:World)(h:xd w cs r)(hc:uk r=0)(O:uo r.E r.N=1\/uo r.E r.N=28):
  Calls prog 210 #[.agg cs.toArray,.int .i64 ud,.pointer p] w (uf (.tuple #[.string (bs (if uo r.E r.N=1 then r.ad.ip.take 4 else r.ad.ip)),.int .i64 0]) w):=by
 have CK:=Y (fun w' (b:al w w')=>ym cs r w' (h.G b));have hl:cs.length=33:=gv;have L1:cs[1]?=some (.int .i64 r.E):=gu;have L2:cs[2]?=some (.int .i64 r.N):=gu;have h16:r.ad.ip.length=16:=kq;have LI:Hid (∀j (hj:j<r.ad.ip.length),cs[5+j]?=some (.int .u8 (r.ad.ip[j].toNat:Int))):=Y bD;have hb:=Y (fun w=>vL r.E r.N w);rw[hc]at CK;clear h hc;generalize uo r.E r.N=k at*;generalize r.ad.ip=ip,r.E=E,r.N=N at*;rcases O with rfl|rfl
 ·
  rw[if_pos J];have h4:(ip.take 4).length=4:=by simp[h16]
  have B0:=Z.new w 119 cs;have HB0:Below w.heap.size w (w.alloc (.cells cs.toArray 119)):=gj;go_enter func210,ntmps210;go_wp2_with(refine tO (.load 119 (.tmp 3)) J ?_;go_must(refine tP J _ _ J w.heap.size 0 J B0 33 I _ underlying119 J uu cs (wg I) ?_));go_wp2_with fail;refine(CK.out _ HB0).mono ?_;rintro _ w2 ⟨rfl,b2⟩;have B:=B0.G b2 B0.lt;have HB:=tL HB0 HB0.size b2;clear B0 HB0 b2 CK;have u1:=B.K 1 L1;have u2:=B.K 2 L2;go_wp2_with fail;refine(hb.out _).mono ?_;rintro _ w3 ⟨rfl,rfl⟩;have CV:=J0 (o:=5) B (ip.take 4) 16 (fun j hj=>by rw[LI.out j I];simp);rw[h4]at CV;generalize ip.take 4=q at*;clear hb u1 u2 L1 L2 LI h16;exact pV
 ·rw[if_neg ax];have B0:=Z.new w 119 cs;have HB0:Below w.heap.size w (w.alloc (.cells cs.toArray 119)):=gj;go_enter func210,ntmps210;go_wp2_with(refine tO (.load 119 (.tmp 3)) J ?_;go_must(refine tP J _ _ J w.heap.size 0 J B0 33 I _ underlying119 J uu cs (wg I) ?_));go_wp2_with fail;refine(CK.out _ HB0).mono ?_;rintro _ w2 ⟨rfl,b2⟩;have B:=B0.G b2 B0.lt;have HB:=tL HB0 HB0.size b2;clear B0 HB0 b2 CK;have u1:=B.K 1 L1;have u2:=B.K 2 L2;go_wp2_with fail;refine(hb.out _).mono ?_;rintro _ w3 ⟨rfl,rfl⟩;have CV:=J0 (o:=5) B ip 16 (fun j hj=>LI.out j hj);rw[h16]at CV;clear hb u1 u2 L1 L2 LI;exact pV
theorem KS(n:Int)(w:World):Calls prog 117 #[.int .i64 2,.int .i64 n] w (uf (.string (bs (tT 2 n))) w):=wi 2 n w
theorem Et(n:Int)(w:World):Calls prog 117 #[.int .i64 4,.int .i64 n] w (uf (.string (bs (tT 4 n))) w):=wi 4 n w
theorem YH(cs:List Value)(r:RR)(ud:Int)(p:Option Addr)(w:World)(h:xd w cs r)(hc:uk r=0)(O:uo r.E r.N=33):
  Calls prog 210 #[.agg cs.toArray,.int .i64 ud,.pointer p] w (uf (.tuple #[.string (bs (tT 2 r.pri++tT 2 r.we++tT 2 r.po++yw r.tg)),.int .i64 (tY r.tg)]) w):=by
 have CK:=Y (fun w' (b:al w w')=>ym cs r w' (h.G b));have hl:cs.length=33:=gv;have L1:cs[1]?=some (.int .i64 r.E):=gu;have L2:cs[2]?=some (.int .i64 r.N):=gu;obtain⟨At,ct,L22,hR⟩:∃At ct,cs[22]?=some (.slice At r.tg.length ct)/\xj w At ct r.tg:=by exact qN
 have L24:cs[24]?=some (.int .i64 r.pri):=jS;have L25:cs[25]?=some (.int .i64 r.we):=jR;have L26:cs[26]?=some (.int .i64 r.po):=jQ;have hb:=Y (fun w=>vL r.E r.N w);have hz:(yw r.tg).length<=255:=by exact rY
 rw[hc]at CK;rw[O]at hb;clear h hc O;have PT:=Y (fun w' (b:al w w')=>KK At ct r.tg ud w' (hR.G b));generalize yw r.tg=acZ at*;generalize tY r.tg=e at*;generalize r.tg.length=n,r.E=E,r.N=N at*;clear hR;have P1:=Y (fun w=>KS r.pri w);have P2:=Y (fun w=>KS r.we w);have P3:=Y (fun w=>KS r.po w);have l1:=tR 2 r.pri;have l2:=tR 2 r.we;have l3:=tR 2 r.po;generalize tT 2 r.pri=s1 at*;generalize tT 2 r.we=s2 at*;generalize tT 2 r.po=s3 at*;generalize r.pri=pri,r.we=we,r.po=po at*;have B0:=Z.new w 119 cs;have HB0:Below w.heap.size w (w.alloc (.cells cs.toArray 119)):=gj;go_enter func210,ntmps210;go_wp2_with(refine tO (.load 119 (.tmp 3)) J ?_;go_must(refine tP J _ _ J w.heap.size 0 J B0 33 I _ underlying119 J uu cs (wg I) ?_));go_wp2_with fail;refine(CK.out _ HB0).mono ?_;rintro _ w2 ⟨rfl,b2⟩;have B:=B0.G b2 B0.lt;have HB:=tL HB0 HB0.size b2;clear B0 HB0 b2 CK;have u1:=B.K 1 L1;have u2:=B.K 2 L2;go_wp2_with fail;refine(hb.out _).mono ?_;rintro _ w3 ⟨rfl,rfl⟩;have u22:=B.K 22 L22;clear hb u1 u2 L1 L2 L22;go_wp2_with fail;refine(PT.out _ HB).mono ?_;rintro _ w3 ⟨rfl,hB3⟩;have B3:=B.G hB3 B.lt;have HB3:=tL HB HB.size hB3;clear B HB hB3 PT;go_wp2_with fail;refine xz (by kernel_rfl) (by kernel_rfl) ?_
 (refine tW (v:=(.pointer (some ⟨w.heap.size,24,none⟩))) J (fun W hW=>by first|(go_simp;done)|(go_simp;omega)) ?_;simp only[z])
 refine vr 3 (.tmp 54) J ⟨w.heap.size,24,none⟩ J J (fun W hW=>tV underlying3 J ((B3.G hW B3.lt).K 24 L24)) ?_;simp only[z];refine vN 117 #[.int .i64 2,.int .i64 pri] J (fun W=>by go_simp) (fun W hW=>uf.zq hW (P1.out W)) ?_;simp only[z]
 (refine tW (v:=(.pointer (some ⟨w.heap.size,25,none⟩))) J (fun W hW=>by first|(go_simp;done)|(go_simp;omega)) ?_;simp only[z])
 refine vr 3 (.tmp 57) J ⟨w.heap.size,25,none⟩ J J (fun W hW=>tV underlying3 J ((B3.G hW B3.lt).K 25 L25)) ?_;simp only[z];refine vN 117 #[.int .i64 2,.int .i64 we] J (fun W=>by go_simp) (fun W hW=>uf.zq hW (P2.out W)) ?_;simp only[z]
 (refine tW (v:=(.string (bs (s1++s2)))) J (fun W hW=>by first|(go_simp;done)|(go_simp;omega)) ?_;simp only[z])
 (refine tW (v:=(.pointer (some ⟨w.heap.size,26,none⟩))) J (fun W hW=>by first|(go_simp;done)|(go_simp;omega)) ?_;simp only[z])
 refine vr 3 (.tmp 61) J ⟨w.heap.size,26,none⟩ J J (fun W hW=>tV underlying3 J ((B3.G hW B3.lt).K 26 L26)) ?_;simp only[z];refine vN 117 #[.int .i64 2,.int .i64 po] J (fun W=>by go_simp) (fun W hW=>uf.zq hW (P3.out W)) ?_;simp only[z]
 (refine tW (v:=(.string (bs (s1++s2++s3)))) J (fun W hW=>by first|(go_simp;done)|(go_simp;omega)) ?_;simp only[z])
 (refine tW (v:=(.string (bs acZ))) J (fun W hW=>by first|(go_simp;done)|(go_simp;omega)) ?_;simp only[z])
 (refine tW (v:=(.string (bs (s1++s2++s3++acZ)))) J (fun W hW=>by first|(go_simp;done)|(go_simp;omega)) ?_;simp only[z])
 (refine tW (v:=(.int .i64 e)) J (fun W hW=>by first|(go_simp;done)|(go_simp;omega)) ?_;simp only[z])
 (refine tW (v:=(.string (bs (s1++s2++s3++acZ)))) J (fun W hW=>by first|(go_simp;done)|(go_simp;omega)) ?_;simp only[z])
 (refine tW (v:=(.int .i64 e)) J (fun W hW=>by first|(go_simp;done)|(go_simp;omega)) ?_;simp only[z])
 exact rA
theorem Vd(T:Bp)(ud:Int):∀(n:List (List UInt8)) (pre:List UInt8),(EZ T ud pre n).1.length<=pre.length+uQ n+2
 |[],pre=>by simp[EZ,uQ]
 |l::n,pre=>by
  cases h:look T (l::n)with
  |some q=>rw[GY h];simp[tR]
  |none=>rw[Kp h];have ih:=Vd T ud n (pre++zz l);rw[List.length_append,El]at ih;simp only[uQ];omega
theorem wL(T:Option Bp)(ud:Int)(n:List (List UInt8)):(uE T ud n).length<=300:=by
 cases T with
 |none=>
  unfold uE yw OL;dsimp only;split
  ·
   next h=>have:=(wK h).2;simp[vK];omega
  ·simp
 |some T=>
  unfold uE It;dsimp only;split
  ·
   next h=>have:=(wK h).2;have:=Vd T ud n [];simp at this;omega
  ·simp
theorem Tv(lo:Nat)(cs:List Value)(r:RR)(ud:Int)(p:Option Addr)(T:Option Bp)(w0 w:World)(h:xd w0 cs r)(h0:w0.heap.size<=lo)(hb0:al w0 w)(tK:lo<=w.heap.size)(hT:DF lo w p T)(hf:yQ T 800000)(ha0:0<=ud)(ha1:ud<=9000000)(ht:tY r.tg=0)(hm:tY r.ml=0):
  Calls prog 238 #[.agg cs.toArray,.int .i64 ud,.pointer p] w (YE lo p (uE T ud r.tg++uE (vf T ud r.tg) (ud+(uE T ud r.tg).length) r.ml++r.h1.flatMap (tT 4)) 0 (vf (vf T ud r.tg) (ud+(uE T ud r.tg).length) r.ml) w):=by
 obtain⟨An,cn,At,ct,Am,cm,hcs,hr,hN,hTg,hMl,afB⟩:=h;have hl:cs.length=33:=iQ;have L22:cs[22]?=some (.slice At r.tg.length ct):=nT;have L23:cs[23]?=some (.slice Am r.ml.length cm):=nS;have LN:Hid ((cs.drop 27).take 5=uF r.h1):=Y bE;have hn5:=hr.2;clear hcs hN afB hr;have s1l:=wL T ud r.tg;have s2l:=wL (vf T ud r.tg) (ud+(uE T ud r.tg).length) r.ml;have P1:=Y (fun w' (b:al w w')=>Hn lo p T At ct r.tg ud w' (Nat.le_trans tK b.size) (hT.G b) ((hTg.G hb0).G b) (fun T' h=>Nat.le_trans (hf T' h) I));have P2:=Y (fun w' (b:Below lo w w') (aiF:lo<=w'.heap.size) (hT':DF lo w' p (vf T ud r.tg))=>Hn lo p (vf T ud r.tg) Am cm r.ml (ud+(uE T ud r.tg).length) w' aiF hT' (hMl.G (hb0.trans (b.mono h0))) (fun T' h=>Nat.le_trans ((hf.put ud r.tg) T' h) I));rw[ht]at P1;rw[hm]at P2;have hB0:Below w.heap.size w (w.alloc (.cells cs.toArray 119)):=gj;have F:=Z.new w 119 cs;have u22:=F.K 22 L22;clear hT hf hTg hMl L22 ht hm hb0;generalize vf (vf T ud r.tg) (ud+(uE T ud r.tg).length) r.ml=T2 at*;generalize uE (vf T ud r.tg) (ud+(uE T ud r.tg).length) r.ml=s2 at*;generalize uE T ud r.tg=s1 at*;generalize vf T ud r.tg=T1 at*;generalize r.tg.length=ntg,r.ml.length=nml,r.h1=h1 at*;obtain⟨out,ajg⟩:∃out,out=s1++s2++h1.flatMap (tT 4):=gp;rw[<-ajg];have HO:=Y ajg;clear ajg;go_enter func238,ntmps238;go_wp2_with fail;refine(P1.out _ hB0).mono ?_;rintro _ w2 ⟨rfl,hT2,hB2⟩;have B2:=hB2.uG F;have hk:zT lo w w2:=(zT.zq hB0 tK).trans hB2;have agm:lo<=w2.heap.size:=Nat.le_trans tK hk.1.size;have u23:=B2.K 23 L23;clear P1 u22 hB2 F hB0 L23;go_wp2_with fail;refine(P2.out _ hk.1 agm hT2).mono ?_;rintro _ w3 ⟨rfl,hT3,hB3⟩;have B3:=hB3.uG B2;have HB3:zT lo w w3:=hk.trans hB3;have afu:lo<=w3.heap.size:=Nat.le_trans tK HB3.1.size;clear P2 u23 hB3 hT2 B2 hk agm;obtain⟨n0,n1,n2,n3,n4,rfl⟩:∃n0 n1 n2 n3 n4,h1=[n0,n1,n2,n3,n4]:=by
  match h1,hn5 with
  |[a,b,c,d,e],_=>exact⟨a,b,c,d,e,J⟩
 clear hn5;have HLN:=LN.out;clear LN;have l0:=tR 4 n0;have l1:=tR 4 n1;have l2:=tR 4 n2;have l3:=tR 4 n3;have l4:=tR 4 n4;have Q0:=Y (fun w=>Et n0 w);have Q1:=Y (fun w=>Et n1 w);have Q2:=Y (fun w=>Et n2 w);have Q3:=Y (fun w=>Et n3 w);have Q4:=Y (fun w=>Et n4 w);have HO:Hid (out=s1++s2++(tT 4 n0++(tT 4 n1++(tT 4 n2++(tT 4 n3++tT 4 n4))))):=Y bF;generalize tT 4 n0=q0 at*;generalize tT 4 n1=q1 at*;generalize tT 4 n2=q2 at*;generalize tT 4 n3=q3 at*;generalize tT 4 n4=q4 at*;have HL:=Y HLN;clear HLN;go_wp2_with(refine tO (.load 117 (.tmp 42)) J ?_;go_must(refine tP J _ _ J w.heap.size 27 J B3 5 I _ underlying117 J wE [.int .i64 n0,.int .i64 n1,.int .i64 n2,.int .i64 n3,.int .i64 n4] HL.out ?_));clear HL B3;have I0:∀w:World,(Instr.index 117 (.agg #[.int .i64 n0,.int .i64 n1,.int .i64 n2,.int .i64 n3,.int .i64 n4]) (.int .i64 0)).run prog w= .ok (.int .i64 n0) w:=fun _=>by kernel_rfl
 have I1:∀w:World,(Instr.index 117 (.agg #[.int .i64 n0,.int .i64 n1,.int .i64 n2,.int .i64 n3,.int .i64 n4]) (.int .i64 1)).run prog w= .ok (.int .i64 n1) w:=fun _=>by kernel_rfl
 have I2:∀w:World,(Instr.index 117 (.agg #[.int .i64 n0,.int .i64 n1,.int .i64 n2,.int .i64 n3,.int .i64 n4]) (.int .i64 2)).run prog w= .ok (.int .i64 n2) w:=fun _=>by kernel_rfl
 have I3:∀w:World,(Instr.index 117 (.agg #[.int .i64 n0,.int .i64 n1,.int .i64 n2,.int .i64 n3,.int .i64 n4]) (.int .i64 3)).run prog w= .ok (.int .i64 n3) w:=fun _=>by kernel_rfl
 have I4:∀w:World,(Instr.index 117 (.agg #[.int .i64 n0,.int .i64 n1,.int .i64 n2,.int .i64 n3,.int .i64 n4]) (.int .i64 4)).run prog w= .ok (.int .i64 n4) w:=fun _=>by kernel_rfl
 refine wp_loop_rounds 6 ?_;rw[rounds_succ];go_wp2_with fail;refine(Q0.out _).mono ?_;rintro _ w4 ⟨rfl,b4⟩;have HB4:zT lo w w4:=HB3.trans (zT.zq b4 afu);have hT4:=hT3.G b4;have afL:lo<=w4.heap.size:=Nat.le_trans tK HB4.1.size;clear Q0 I0 HB3 hT3 b4 afu;go_wp2_with fail;rw[rounds_succ];go_wp2_with fail;refine(Q1.out _).mono ?_;rintro _ w5 ⟨rfl,b5⟩;have HB5:zT lo w w5:=HB4.trans (zT.zq b5 afL);have hT5:=hT4.G b5;have ahw:lo<=w5.heap.size:=Nat.le_trans tK HB5.1.size;clear Q1 I1 HB4 hT4 b5 afL;go_wp2_with fail;rw[rounds_succ];go_wp2_with fail;refine(Q2.out _).mono ?_;rintro _ w6 ⟨rfl,b6⟩;have HB6:zT lo w w6:=HB5.trans (zT.zq b6 ahw);have hT6:=hT5.G b6;have aib:lo<=w6.heap.size:=Nat.le_trans tK HB6.1.size;clear Q2 I2 HB5 hT5 b6 ahw;go_wp2_with fail;rw[rounds_succ];go_wp2_with fail;refine(Q3.out _).mono ?_;rintro _ w7 ⟨rfl,b7⟩;have HB7:zT lo w w7:=HB6.trans (zT.zq b7 aib);have hT7:=hT6.G b7;have arV:lo<=w7.heap.size:=Nat.le_trans tK HB7.1.size;clear Q3 I3 HB6 hT6 b7 aib;go_wp2_with fail;rw[rounds_succ];go_wp2_with fail;refine(Q4.out _).mono ?_;rintro _ w8 ⟨rfl,b8⟩;have HB8:zT lo w w8:=HB7.trans (zT.zq b8 arV);have hT8:=hT7.G b8;clear Q4 I4 HB7 hT7 b8 arV;go_wp2_with fail;rw[rounds_succ];go_wp2_with fail;go_ret2;exact⟨KH bF,hT8,HB8⟩
theorem YI(lo:Nat)(cs:List Value)(r:RR)(ud:Int)(p:Option Addr)(T:Option Bp)(w0 w:World)(h:xd w0 cs r)(h0:w0.heap.size<=lo)(hb0:al w0 w)(tK:lo<=w.heap.size)(hT:DF lo w p T)(hf:yQ T 800000)(ha0:0<=ud)(ha1:ud<=9000000)(hc:uk r=0)(O:uo r.E r.N=6):
  Calls prog 210 #[.agg cs.toArray,.int .i64 ud,.pointer p] w (YE lo p (uE T ud r.tg++uE (vf T ud r.tg) (ud+(uE T ud r.tg).length) r.ml++r.h1.flatMap (tT 4)) 0 (vf (vf T ud r.tg) (ud+(uE T ud r.tg).length) r.ml) w):=by
 have hE:=(Fc hc).2;have hE6:yd r=(if tY r.tg≠0 then tY r.tg else if tY r.ml≠0 then tY r.ml else if r.h1.all (xN 4294967295)then 0 else 4):=gS;rw[hE6]at hE;have ht:tY r.tg=0:=by exact sT
 have hm:tY r.ml=0:=by exact rS
 have hw:=h.G hb0;have CK:=Y (fun w' (b:al w w')=>ym cs r w' (hw.G b));have hl:cs.length=33:=gv;have L1:cs[1]?=some (.int .i64 r.E):=gu;have L2:cs[2]?=some (.int .i64 r.N):=gu;have hb:=Y (fun w=>vL r.E r.N w);rw[hc]at CK;rw[O]at hb;have PT:=Y (fun w' (b:al w w')=>Tv lo cs r ud p T w0 w' h h0 (tL hb0 hb0.size b) (Nat.le_trans tK b.size) (hT.G b) hf ha0 ha1 ht hm);clear h hc O hE hE6 hT hf ht hm hw hb0;generalize uE T ud r.tg++uE (vf T ud r.tg) (ud+(uE T ud r.tg).length) r.ml++r.h1.flatMap (tT 4)=out at*;generalize vf (vf T ud r.tg) (ud+(uE T ud r.tg).length) r.ml=T2 at*;generalize r.E=E,r.N=N at*;have B0:=Z.new w 119 cs;have HB0:Below w.heap.size w (w.alloc (.cells cs.toArray 119)):=gj;go_enter func210,ntmps210;go_wp2_with(refine tO (.load 119 (.tmp 3)) J ?_;go_must(refine tP J _ _ J w.heap.size 0 J B0 33 I _ underlying119 J uu cs (wg I) ?_));go_wp2_with fail;refine(CK.out _ HB0).mono ?_;rintro _ w2 ⟨rfl,b2⟩;have B:=B0.G b2 B0.lt;have HB:=tL HB0 HB0.size b2;clear B0 HB0 b2 CK;have u1:=B.K 1 L1;have u2:=B.K 2 L2;go_wp2_with fail;refine(hb.out _).mono ?_;rintro _ w3 ⟨rfl,rfl⟩;clear hb u1 u2 L1 L2;go_wp2_with(refine tO (.load 119 (.tmp 3)) J ?_;go_must(refine tP J _ _ J w.heap.size 0 J B 33 I _ underlying119 J uu cs (wg I) ?_));go_wp2_with fail;refine(PT.out _ HB).mono ?_;rintro _ w4 ⟨rfl,hT4,hB4⟩;clear PT;go_wp2_with fail;go_ret2;exact⟨J,hT4,(zT.zq HB tK).trans hB4⟩
def Gk(T:Option Bp)(ud:Int)(r:RR):List UInt8:=if uk r=0 then yx T ud r else[]
def Gl(T:Option Bp)(ud:Int)(r:RR):Option Bp:=if uk r=0 then DG T ud r else T
theorem YJ(lo:Nat)(cs:List Value)(r:RR)(ud:Int)(p:Option Addr)(T:Option Bp)(w0 w:World)(h:xd w0 cs r)(h0:w0.heap.size<=lo)(hb0:al w0 w)(tK:lo<=w.heap.size)(hT:DF lo w p T)(hf:yQ T 800000)(ha0:0<=ud)(ha1:ud<=9000000):
  Calls prog 210 #[.agg cs.toArray,.int .i64 ud,.pointer p] w (YE lo p (Gk T ud r) (uk r) (Gl T ud r) w):=by
 have hw:=h.G hb0;by_cases hc:uk r=0
 ·
  unfold Gk Gl;rw[if_pos hc,if_pos hc,hc];have hE:=(Fc hc).2;rcases zr r.E r.N with O|O|O|O|O|O
  ·refine(Ns cs r ud p w hw hc (.inl O)).mono ?_;exact qx
  ·refine(Ns cs r ud p w hw hc (.inr O)).mono ?_;exact qx
  ·have e1:yx T ud r=uE T ud r.tg:=ky;have e2:DG T ud r=vf T ud r.tg:=kA;have e3:tY r.tg=0:=jD;rw[e1,e2];have:=Wi lo cs r ud p T w hw tK hT (fun T' h=>Nat.le_trans (hf T' h) I) hc O;rwa[e3]at this
  ·
   refine(YH cs r ud p w hw hc O).mono ?_;rintro _ w' ⟨rfl,hB⟩;have e1:yx T ud r=tT 2 r.pri++tT 2 r.we++tT 2 r.po++yw r.tg:=gO;have e2:DG T ud r=T:=gR;have e3:tY r.tg=0:=by
    have e4:yd r=(if[r.pri,r.we,r.po].all (xN 65535)=true then tY r.tg else 4):=gS;rw[e4]at hE;split at hE
    ·exact hE
    ·cases hE
   rw[e1,e2,e3];exact qW
  ·have e1:yx T ud r=uE T ud r.tg++uE (vf T ud r.tg) (ud+(uE T ud r.tg).length) r.ml++r.h1.flatMap (tT 4):=gO;have e2:DG T ud r=vf (vf T ud r.tg) (ud+(uE T ud r.tg).length) r.ml:=gR;rw[e1,e2];exact YI lo cs r ud p T w0 w h h0 hb0 tK hT hf ha0 ha1 hc O
  ·refine(YG cs r ud p w hw hc O).mono ?_;rintro _ w' ⟨rfl,hB⟩;have e1:yx T ud r=r.raw:=gO;have e2:DG T ud r=T:=gR;rw[e1,e2];exact qW
 ·unfold Gk Gl;rw[if_neg hc,if_neg hc];refine(YF cs r ud p w hw hc).mono ?_;rintro _ w' ⟨rfl,hB⟩;exact qW
end Go.Proofs.YthnbcmlnpdabhaaGreat
