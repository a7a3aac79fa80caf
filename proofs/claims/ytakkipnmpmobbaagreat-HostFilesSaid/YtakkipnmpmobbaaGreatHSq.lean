/-
  Layer 13 (rdata):has,an SOA;has of any record.
-/
import Derived.Test.YtakkipnmpmobbaaGreatHRq
namespace Go.Proofs.YtakkipnmpmobbaaGreat
open _root_.Go.Proofs.Tryz
set_option maxHeartbeats 8000000
open Go.RowKit
set_option maxRecDepth 100000
set_option linter.unusedVariables false
set_option linter.unusedSimpArgs false
variable {lo g:Nat} {w' B:World} {t:TypeId}
theorem afI(vn:Value)(At Am:Option Addr)(ct cm:Nat)(r:RR)(hr:r.wf)(hn:vn.oneCell'=true)(w:World)(hT:wA w At ct r.tg)(hM:wA w Am cm r.ml)(O:sf r.Q r.cl=6):
  Calls prog 153 #[.agg (uz vn (.slice At r.tg.length ct) (.slice Am r.ml.length cm) r).toArray] w (rW (.tuple #[.agg (uz vn rI rI {r with tg:=[],ml:=[],abY:=[0,0,0,0,0]}).toArray,.int .i64 (if xo [r.tg,r.ml]≠0 then xo [r.tg,r.ml]else if r.abY.all (xG 4294967295)then 0 else 4)]) w):=by
 obtain⟨vt,hvt⟩:∃v,v=Value.slice At r.tg.length ct:=gh;have ht:vt.oneCell'=true:=lR;obtain⟨vm,hvm⟩:∃v,v=Value.slice Am r.ml.length cm:=gh;have hm:vm.oneCell'=true:=by rw[hvm];rfl
 rw[<-hvt,<-hvm];have HVT:=J hvt;have HVM:=J hvm;clear hvt hvm;have E:=uu (vn:=vn) (vt:=vt) (vm:=vm) hr;have L1?:=Ln (vn:=vn) (vt:=vt) (vm:=vm) (r:=r);have L2?:=Lo (vn:=vn) (vt:=vt) (vm:=vm) (r:=r);have L22:=DR (vn:=vn) (vt:=vt) (vm:=vm) hr;have L23:=To (vn:=vn) (vt:=vt) (vm:=vm) hr;have LN:=J (IU (vn:=vn) (vt:=vt) (vm:=vm) hr);have LZ:Hid (((uz vn vt vm r).set 22 rI).set 23 rI=uz vn rI rI r):=J (by rw[Fy hr,Wx hr]);have LS:=J (PX (vn:=vn) (vt:=rI) (vm:=rI) hr [0,0,0,0,0] I);change Hid (_=uz vn rI rI {r with tg:=[],ml:=[],abY:=[0,0,0,0,0]})at LS;have Lzl:=uu (vn:=vn) (vt:=rI) (vm:=rI) hr;have L1c:=J (uX (r:=r) hn ht hm);have L4c:=J (uX (vt:=rI) (vm:=rI) (r:={r with tg:=[],ml:=[],abY:=[0,0,0,0,0]}) hn I I);have L4l:=uu (vn:=vn) (vt:=rI) (vm:=rI) (r:={r with tg:=[],ml:=[],abY:=[0,0,0,0,0]}) ⟨hr.1,I⟩;have al:=J (fun w=>ti r.Q r.cl w);rw[O]at al;have AN:=J (fun w A h=>DT A 2 [r.tg,r.ml] w h ar);have WI:=J (fun w A h=>zG 4294967295 A 5 r.abY w h (by rw[hr.2];decide));have hn5:=hr.2;generalize uz vn rI rI {r with tg:=[],ml:=[],abY:=[0,0,0,0,0]}=L4 at*;generalize uz vn rI rI r=Lz at*;generalize uz vn vt vm r=L at*;generalize xo [r.tg,r.ml]=e at*;generalize hB3:r.abY.all (xG 4294967295)=b3 at*;clear hB3;generalize r.abY=abY,r.Q=Q,r.cl=cl at*;clear O;generalize akL:(if e≠0 then e else if b3=true then 0 else 4)=res;have ahm:=J akL;clear akL;have B0:=N.new w 201 L;go_enter func153,ntmps153;go_wp2_with(first
  |(refine rF (.load 201 (.tmp 1)) rfl ?_;go_must(refine rG rfl _ _ rfl w.heap.size 0 rfl (N.alloc (N.new w 201 L) _) 33 Y _ underlying201 rfl ta L (uH Y) ?_))
  |(refine rF (.store 201 (.tmp 4) (.tmp 6)) rfl (ab rfl (w.heap.size+1+1) 0 L (N.uE _ _ vM _ ar) a7 a9 L1c.out ?_)))
 intro w3 hb3 hg3 hs3;have B1:N w3 w.heap.size 201 L:=gO;have B2:N w3 (w.heap.size+1) 201 vM:=gI;have B4:N w3 (w.heap.size+1+1) 201 L:=gB;have HB:ao w w3:=gj;clear hb3 hg3 B0;have u1:=B1.rD 1 L1?;have u2:=B1.rD 2 L2?;clear L1? L2?;go_wp2_with fail;refine(al.out _).mono ?_;rintro _ w4 ⟨rfl,rfl⟩;clear al u1 u2;have u22:=B4.rD 22 L22;have u23:=B4.rD 23 L23;have f22:=B4.frozen 22;have f23:=B4.frozen 23;have B4s:=rrS (B4.set 22 rI) LZ.out;go_wp2_with(refine rF (.store 184 (.tmp 63) (.tmp 60)) I (ab I (w.heap.size+1+1) 27 (sO [0,0,0,0,0]) B4s (by rw[Lzl];decide) wM (by intro v hv;obtain⟨b,_,rfl⟩:=List.mem_map.1 hv;rfl) ?_));intro w5 hb5 hg5 hs5;have hl:w.heap.size≠w.heap.size+1+1:=Y;have aj3:w.heap.size+1≠w.heap.size+1+1:=Y;have B1s:=((B1.wZ (p:=⟨w.heap.size+1+1,22,none⟩) hl rI).wZ (p:=⟨w.heap.size+1+1,23,none⟩) hl rI).grown hg5 (by simpa using hl);have B2s:=((B2.wZ (p:=⟨w.heap.size+1+1,22,none⟩) aj3 rI).wZ (p:=⟨w.heap.size+1+1,23,none⟩) aj3 rI).grown hg5 ar;have HB0:=((HB.setCell (p:=⟨w.heap.size+1+1,22,none⟩) aB rI).setCell (p:=⟨w.heap.size+1+1,23,none⟩) aB rI);have HBs:=rE HB0 hg5 HB0.size Y;have B4z:N w5 (w.heap.size+1+1) 201 L4:=by rw[<-LS.out,List.append_assoc];exact hb5
 clear B1 B2 B4 HB f22 f23 B4s HB0 hg5 hb5 LS LZ hs3 Lzl;have v22:=B1s.rD 22 L22;have v23:=B1s.rD 23 L23;clear L22 L23;have e1:=HVT.out;have e2:=HVM.out;clear HVT HVM;subst e1;subst e2;go_wp2_with fail;refine(AN.out _ _ (Cb.agD (hT.G HBs) (hM.G HBs) _ hs5.symm 24)).mono ?_;rintro _ w8 ⟨rfl,rfl⟩;clear AN v22 v23;have B1:=B1s.alloc (.cells #[.slice At r.tg.length ct,.slice Am r.ml.length cm] 24);have B2:=B2s.alloc (.cells #[.slice At r.tg.length ct,.slice Am r.ml.length cm] 24);have B4:=B4z.alloc (.cells #[.slice At r.tg.length ct,.slice Am r.ml.length cm] 24);have HB:=HBs.alloc HBs.size (.cells #[.slice At r.tg.length ct,.slice Am r.ml.length cm] 24);have hs4:(w5.alloc (.cells #[.slice At r.tg.length ct,.slice Am r.ml.length cm] 24)).heap.size=w.heap.size+1+1+1+1:=by simpa using hs5
 generalize w5.alloc (.cells #[.slice At r.tg.length ct,.slice Am r.ml.length cm] 24)=w4 at*;clear B1s B2s B4z HBs hs5;by_cases he:e=0
 ·
  subst he;have hr0:=ahm.out;rw[if_neg ar]at hr0;have HW:=WI.out w4 _ (ED.at B1 27 (by rw[hn5];exact LN.out));rw[hn5]at HW;clear WI ahm;go_wp2_with fail;refine HW.mono ?_;rintro _ w8 ⟨rfl,rfl⟩;clear HW;cases b3 with
  |true=>
   have hr1:(0:Int)=res:=by simpa using hr0
   subst hr1;clear hr0;go_wp2_with(first
    |(refine rF (.load 201 (.tmp 4)) rfl ?_;go_must(refine rG rfl _ _ rfl (w.heap.size+1+1) 0 rfl B4 33 Y _ underlying201 rfl ta L4 (uH Y) ?_))
    |(refine rF (.store 201 (.tmp 2) (.tmp 79)) rfl (ab rfl (w.heap.size+1) 0 L4 B2 a7 bd L4c.out ?_)))
   exact mF
  |false=>
   have hr1:(4:Int)=res:=by simpa using hr0
   subst hr1;clear hr0;go_wp2_with(first
    |(refine rF (.load 201 (.tmp 4)) rfl ?_;go_must(refine rG rfl _ _ rfl (w.heap.size+1+1) 0 rfl B4 33 Y _ underlying201 rfl ta L4 (uH Y) ?_))
    |(refine rF (.store 201 (.tmp 2) (.tmp 78)) rfl (ab rfl (w.heap.size+1) 0 L4 B2 a7 bd L4c.out ?_)))
   exact mF
 ·
  have hr1:e=res:=by rw[<-ahm.out,if_pos he]
  subst hr1;have he':(e !=0)=true:=iu;clear ahm WI he;go_wp2_with(first
   |(refine rF (.load 201 (.tmp 4)) rfl ?_;go_must(refine rG rfl _ _ rfl (w.heap.size+1+1) 0 rfl B4 33 Y _ underlying201 rfl ta L4 (uH Y) ?_))
   |(refine rF (.store 201 (.tmp 2) (.tmp 72)) rfl (ab rfl (w.heap.size+1) 0 L4 B2 a7 bd L4c.out ?_)))
  exact mF
def aeE(r:RR)(w:World):Ending->World->Prop:=fun e w'=>∃cs,e= .returned (.tuple #[.agg cs.toArray,.int .i64 (wT r)])/\yJ w' cs (vL r)/\ao w w'
theorem wA.nil(w:World):wA w none 0 []:=⟨fun h=>absurd h ar,ar,ar,ar⟩
theorem Cq(Q cl:Int):sf Q cl=1\/sf Q cl=28\/(sf Q cl=5\/sf Q cl=12)\/sf Q cl=33\/sf Q cl=6\/sf Q cl=0:=by
 unfold sf;by_cases h:cl=1/\(Q=1\/Q=28\/Q=5\/Q=12\/Q=33\/Q=6)
 ·rw[if_pos h];obtain⟨_,h|h|h|h|h|h⟩:=h<;>simp[h]
 ·rw[if_neg h];simp
theorem aci(cs:List Value)(r:RR)(w:World)(h:yJ w cs r):Calls prog 153 #[.agg cs.toArray] w (aeE r w):=by
 obtain⟨An,cn,At,ct,Am,cm,rfl,hr,hN,hT,hM,aiS⟩:=h;rcases Cq r.Q r.cl with O|O|O|O|O|O
 ·refine(afE _ _ _ r hr I I I w O).mono ?_;rintro _ w' ⟨rfl,hB⟩;refine⟨_,by rw[wT,if_pos O];rfl,?_,hB⟩;rw[vL,if_pos (.inl O)];exact pL
 ·refine(aeC _ _ _ r hr I I I w O).mono ?_;rintro _ w' ⟨rfl,hB⟩;refine⟨_,by rw[wT,if_neg Y,if_pos O];rfl,?_,hB⟩;rw[vL,if_pos (.inr O)];exact pL
 ·refine(afG _ _ At ct r hr I I w hT O).mono ?_;rintro _ w' ⟨rfl,hB⟩;refine⟨_,by rw[wT,if_neg Y,if_neg Y,if_pos O],?_,hB⟩;rw[vL,if_neg Y,if_pos O];exact pZ
 ·refine(aeD _ _ At ct r hr I I w hT O).mono ?_;rintro _ w' ⟨rfl,hB⟩;have e:(if[r.pri,r.we,r.po].all (xG 65535)=true then rR r.tg else 4)=wT r:=iz;refine⟨_,by rw[e],?_,hB⟩;rw[vL,if_neg Y,if_neg Y,if_pos O];exact pZ
 ·
  refine(afI _ At Am ct cm r hr I w hT hM O).mono ?_;rintro _ w' ⟨rfl,hB⟩;have e:(if xo [r.tg,r.ml]≠0 then xo [r.tg,r.ml]else if r.abY.all (xG 4294967295)=true then 0 else 4)=wT r:=by
   have e0:wT r=(if rR r.tg≠0 then rR r.tg else if rR r.ml≠0 then rR r.ml else if r.abY.all (xG 4294967295)then 0 else 4):=iz;rw[e0];simp only[xo];by_cases U:rR r.tg=0
   ·by_cases F:rR r.ml=0<;>simp[U,F]
   ·simp[U]
  refine⟨_,by rw[e],?_,hB⟩;rw[vL,if_neg Y,if_neg Y,if_neg Y,if_pos O];exact⟨An,cn,none,0,none,0,I,⟨hr.1,I⟩,hN.G hB,wA.nil _,wA.nil _,aiS⟩
 ·refine(afH _ _ _ r hr I I I w aiS O).mono ?_;rintro _ w' ⟨rfl,hB⟩;have e:(if 65535<r.raw.length then(3:Int)else 0)=wT r:=iz;refine⟨_,by rw[e],?_,hB⟩;rw[vL,if_neg Y,if_neg Y,if_neg Y,if_neg Y];exact⟨An,cn,At,ct,Am,cm,I,hr,hN.G hB,hT.G hB,hM.G hB,ar⟩
theorem Zf(a:sg)(ha:a.ip.length=16)(w:World):(Op.equalIn 10000 67 (.agg a.cells.toArray) (.agg #[.int .i64 0,.int .u8 0,.int .u8 0,.int .u8 0,.int .u8 0,.int .u8 0,.int .u8 0,.int .u8 0,.int .u8 0,.int .u8 0,.int .u8 0,.int .u8 0,.int .u8 0,.int .u8 0,.int .u8 0,.int .u8 0,.int .u8 0,.int .i64 0])).run prog w= .ok (decide (a=sg.zero)) w:=
 Ey a sg.zero ha I w
theorem Zg(l:List Int)(E:l.length=5)(w:World):(Op.equalIn 10000 184 (.agg (sO l).toArray) (.agg #[.int .i64 0,.int .i64 0,.int .i64 0,.int .i64 0,.int .i64 0])).run prog w= .ok (l==[0,0,0,0,0]) w:=
 zX w 9998 184 3 5 .i64 underlying184 underlying3 YN l [0,0,0,0,0] E I
theorem NJ(n:Int):(n !=0)=!decide (n=0):=by by_cases h:n=0<;>simp[h]
theorem vf{P:Program}{ops:Array Oper}{rest:List Oper}{op:Oper}{a:Act}{w:World}{hb:Exit->Act->World->Prop}(hw:Region.wanted op (yielded ops a.tmps)=true)(Q:TypeId)(x:Operand)(ho:op.op= .load Q x)
  (g o:Nat) (hx:a.eval x= .pointer (some ⟨g,o,none⟩)) {t:TypeId} {L:List Value} (Z:N w g t L) (n:Nat) (hn:o+n<=L.length) (d:TypeDesc)
  (hu:P.underlying Q=some d) (hd:d.isRow=true) (hi:(P.info? Q).map (·.size)=some n) (sub:List Value) (ajw:(L.drop o).take n=sub)
  (h:wpList P ops hb rest (a.put op.dst (.agg sub.toArray)) w):wpList P ops hb (op::rest) a w:=by
 have E:sub.length=n:=jP;refine wpList_step fun al hK=>?_
 rw[if_pos hw];exact wp_load_mid Q x ho g o hx sub d (ajw▸Z.range o n hn) hu hd aE (hK _ _ h)
theorem vN(cs:List Value)(r:RR)(w:World)(h:yJ w cs r):Calls prog 134 #[.agg cs.toArray] w (rW (.int .i64 (r8 r)) w):=by
 have hh:=h;obtain⟨An,cn,At,ct,Am,cm,hcs,hr,hN,hT,hM,aiS⟩:=h;have E:cs.length=33:=lW;have L0:cs[0]?=some (.slice An r.name.length cn):=dh;have L1:cs[1]?=some (.int .i64 r.Q):=dh;have L2:cs[2]?=some (.int .i64 r.cl):=dh;have L3:cs[3]?=some (.int .i64 r.ttl):=dh;clear hcs;have hB0:Below w.heap.size w (w.alloc (.cells cs.toArray 201)):=fZ;have Z:=N.new w 201 cs;have HH:=J (fun w' (b:ao w w')=>aci cs r w' (hh.G b));have CN:=J (fun w' (b:ao w w')=>wK An cn r.name w' (hN.G b).1 bf);have W1:=J (fun w A h=>zG 65535 A 2 [r.Q,r.cl] w h ar);have W2:=J (fun w A h=>zG 4294967295 A 1 [r.ttl] w h ar);have HE:Hid (r8 r=_):=J (by unfold r8;rfl);generalize r8 r=res at*;generalize r.Q=Q,r.cl=cl,r.ttl=ttl at*;generalize rR r.name=e0 at*;generalize[Q,cl].all (xG 65535)=b1 at*;have w2e:[ttl].all (xG 4294967295)=xG 4294967295 ttl:=ar;rw[w2e]at W2;clear w2e;generalize xG 4294967295 ttl=b2 at*;have u0:=Z.rD 0 L0;have u1:=Z.rD 1 L1;have u2:=Z.rD 2 L2;have u3:=Z.rD 3 L3;clear L0 L1 L2 hN hT hM aiS;go_enter func134,ntmps134;go_wp2_with fail;refine(CN.out _ hB0).mono ?_;rintro _ B ⟨rfl,rfl⟩;clear CN;by_cases h0:e0=0
 case neg=>have hr0:=HE.out;rw[if_pos h0]at hr0;subst hr0;have h0':(res !=0)=true:=gL;clear HE h0;go_wp2_with fail;go_ret;exact rW.mk I hB0
 subst h0;have HE1:=J (HE.out.trans (if_neg ar));clear HE;generalize hw1:w.alloc (.cells cs.toArray 201)=B at*;have hs1:B.heap.size=w.heap.size+1:=by rw[<-hw1];simp
 clear hw1;go_wp2_with fail;refine(W1.out _ _ (ED.new [Q,cl] _ hs1.symm 3)).mono ?_;rintro _ w2 ⟨rfl,rfl⟩;clear W1;have hB1:=hB0.alloc hB0.size (.cells (sO [Q,cl]).toArray 3);have hb1:=Z.alloc (.cells (sO [Q,cl]).toArray 3);have hs2:(B.alloc (.cells (sO [Q,cl]).toArray 3)).heap.size=w.heap.size+1+1:=by simp[hs1]
 generalize B.alloc (.cells (sO [Q,cl]).toArray 3)=w2 at*;clear hB0 Z hs1;cases b1 with
 |false=>have hr0:=HE1.out;rw[if_pos (.inl ar)]at hr0;subst hr0;clear HE1;go_wp2_with fail;go_ret;exact rW.mk I hB1
 |true=>
 have u3:=hb1.rD 3 L3;clear L3;go_wp2_with fail;refine(W2.out _ _ (ED.new [ttl] _ hs2.symm 3)).mono ?_;rintro _ w3 ⟨rfl,rfl⟩;clear W2;have hB2:=hB1.alloc hB1.size (.cells (sO [ttl]).toArray 3);have hb2:=hb1.alloc (.cells (sO [ttl]).toArray 3);have hs3:(w2.alloc (.cells (sO [ttl]).toArray 3)).heap.size=w.heap.size+1+1+1:=by simp[hs2]
 generalize w2.alloc (.cells (sO [ttl]).toArray 3)=w3 at*;clear hB1 hb1 hs2 u3;cases b2 with
 |false=>have hr0:=HE1.out;rw[if_pos (.inr ar)]at hr0;subst hr0;clear HE1;go_wp2_with fail;go_ret;exact rW.mk I hB2
 |true=>
 have HE2:=J (HE1.out.trans (if_neg ar));clear HE1;go_wp2_with(refine rF (.load 201 (.tmp 1)) I ?_;go_must(refine rG I _ _ I w.heap.size 0 I hb2 33 Y _ underlying201 I ta cs (uH Y) ?_));go_wp2_with fail;refine(HH.out _ hB2).mono ?_;rintro _ w4 ⟨cs4,rfl,hR4,avY⟩;have hB4:=rC hB2 hB2.size avY;clear HH avY hb2 hB2 hs3 E hh;obtain⟨An4,cn4,At4,ct4,Am4,cm4,aje,hr4,hN4,hT4,hM4,aFm⟩:=hR4;generalize vL r=r4 at*;have hl4:cs4.length=33:=by rw[aje];exact uu hr4
 have M22:cs4[22]?=some (.slice At4 r4.tg.length ct4):=by rw[aje];exact DR hr4
 have M23:cs4[23]?=some (.slice Am4 r4.ml.length cm4):=by rw[aje];exact To hr4
 have M24:cs4[24]?=some (.int .i64 r4.pri):=by rw[aje];exact Tp hr4
 have M25:cs4[25]?=some (.int .i64 r4.we):=by rw[aje];exact Tq hr4
 have M26:cs4[26]?=some (.int .i64 r4.po):=by rw[aje];exact Tr hr4
 have M32:cs4[32]?=some (.string (bs r4.raw)):=by rw[aje];exact Ts hr4
 have LA:Hid ((cs4.drop 4).take 18=r4.ad.cells):=J (by rw[aje];exact IQ hr4);have LN:Hid ((cs4.drop 27).take 5=sO r4.abY):=J (by rw[aje];exact IU hr4);have L1c:Hid (∀v∈cs4,v.oneCell'=true):=J (by rw[aje];exact uX I I I);clear aje;have EA:=Zf r4.ad hr4.1;have EN:=Zg r4.abY hr4.2;have tb:=hT4.2.2.1;have mb:=hM4.2.2.1;clear hN4 hT4 hM4;have HE3:Hid (res=if wT r≠0 then wT r else if zF r4 then 0 else 5):=HE2;clear HE2;generalize wT r=e1 at*;go_wp2_with(refine rF (.store 201 (.tmp 4) (.tmp 29)) I (ab I w4.heap.size 0 cs4 (N.uE _ _ vM _ ar) a7 (by rw[hl4];exact ta) L1c.out ?_));intro w5 hb5 hg5 hs5;rw[List.drop_of_length_le a7,List.append_nil]at hb5;have B4:=hb5;have hB5:ao w w5:=rE (hB4.alloc hB4.size _) hg5 (by have:=hB4.size;simp;omega) hB4.size;clear hb5 hg5 hB4 L1c hr hs5;by_cases U:e1=0
 case neg=>have hr0:=HE3.out;rw[if_pos U]at hr0;subst hr0;have h0':(res !=0)=true:=iJ;clear HE3 U EA EN M22 M23 M24 M25 M26 M32;go_wp2_with fail;exact oF
 subst U;have HE4:=HE3.out.trans (if_neg ar);clear HE3;have c22:=B4.rD 22 M22;have c23:=B4.rD 23 M23;have c24:=B4.rD 24 M24;have c25:=B4.rD 25 M25;have c26:=B4.rD 26 M26;have c32:=B4.rD 32 M32;clear M22 M23 M24 M25 M26 M32;have q1:decide (r4.tg=[])=true↔r4.tg.length=0:=ar;have q2:decide (r4.ml=[])=true↔r4.ml.length=0:=ar;have q3:=NJ r4.pri;have q4:=NJ r4.we;have q5:=NJ r4.po;have q6:(r4.abY==[0,0,0,0,0])=decide (r4.abY=[0,0,0,0,0]):=by by_cases h:r4.abY=[0,0,0,0,0]<;>simp[h]
 have q7:decide (r4.raw=[])=true↔r4.raw=[]:=ar;rw[q6]at EN;clear q6;unfold zF at HE4;generalize decide (r4.ad=sg.zero)=bA at*;generalize decide (r4.tg=[])=bT at*;generalize decide (r4.ml=[])=bM at*;generalize decide (r4.pri=0)=bP at*;generalize decide (r4.we=0)=bW at*;generalize decide (r4.po=0)=bO at*;generalize decide (r4.abY=[0,0,0,0,0])=bN at*;generalize decide (r4.raw=[])=bR at*;generalize r4.ad.cells=LAd at*;generalize sO r4.abY=LNs at*;generalize r4.pri=pri,r4.we=we at*;generalize r4.po=po,r4.tg.length=n1 at*;generalize r4.ml.length=n2,r4.raw=raw at*;have HE5:=J HE4;clear HE4 hr4;cases bA with
 |false=>
  have hr0:res=5:=gN;subst hr0;clear HE5 q1 q2 q3 q4 q5 q7;go_wp2_with(first
   |(refine rF (.load 67 (.tmp 34)) rfl ?_;go_must(refine rG rfl _ _ rfl w4.heap.size 4 rfl B4 18 Y _ underlying67 rfl uL LAd LA.out ?_))
   |(refine rF (.load 184 (.tmp 66)) rfl ?_;refine vf (by kernel_rfl) 184 (.tmp 66) rfl w4.heap.size 27 rfl B4 5 Y _ underlying184 rfl wM LNs LN.out ?_))
  exact oF
 |true=>
 cases bT with
 |false=>
  have hr0:res=5:=gN;subst hr0;have p1:0<n1:=by simp at q1;omega
  have p2:(0:Int)<n1:=Y;clear HE5 q1 q2 q3 q4 q5 q7;go_wp2_with(first
   |(refine rF (.load 67 (.tmp 34)) rfl ?_;go_must(refine rG rfl _ _ rfl w4.heap.size 4 rfl B4 18 Y _ underlying67 rfl uL LAd LA.out ?_))
   |(refine rF (.load 184 (.tmp 66)) rfl ?_;refine vf (by kernel_rfl) 184 (.tmp 66) rfl w4.heap.size 27 rfl B4 5 Y _ underlying184 rfl wM LNs LN.out ?_))
  exact oF
 |true=>
 obtain rfl:=q1.1 I;clear q1;cases bM with
 |false=>
  have hr0:res=5:=gN;subst hr0;have p1:0<n2:=by simp at q2;omega
  have p2:(0:Int)<n2:=Y;clear HE5 q2 q3 q4 q5 q7;go_wp2_with(first
   |(refine rF (.load 67 (.tmp 34)) rfl ?_;go_must(refine rG rfl _ _ rfl w4.heap.size 4 rfl B4 18 Y _ underlying67 rfl uL LAd LA.out ?_))
   |(refine rF (.load 184 (.tmp 66)) rfl ?_;refine vf (by kernel_rfl) 184 (.tmp 66) rfl w4.heap.size 27 rfl B4 5 Y _ underlying184 rfl wM LNs LN.out ?_))
  exact oF
 |true=>
 obtain rfl:=q2.1 I;clear q2;cases bP with
 |false=>
  have hr0:res=5:=gN;subst hr0;simp only[Bool.not_false]at q3;clear HE5 q4 q5 q7;go_wp2_with(first
   |(refine rF (.load 67 (.tmp 34)) rfl ?_;go_must(refine rG rfl _ _ rfl w4.heap.size 4 rfl B4 18 Y _ underlying67 rfl uL LAd LA.out ?_))
   |(refine rF (.load 184 (.tmp 66)) rfl ?_;refine vf (by kernel_rfl) 184 (.tmp 66) rfl w4.heap.size 27 rfl B4 5 Y _ underlying184 rfl wM LNs LN.out ?_))
  exact oF
 |true=>
 cases bW with
 |false=>
  have hr0:res=5:=gN;subst hr0;simp only[Bool.not_false,Bool.not_true]at q3 q4;clear HE5 q5 q7;go_wp2_with(first
   |(refine rF (.load 67 (.tmp 34)) rfl ?_;go_must(refine rG rfl _ _ rfl w4.heap.size 4 rfl B4 18 Y _ underlying67 rfl uL LAd LA.out ?_))
   |(refine rF (.load 184 (.tmp 66)) rfl ?_;refine vf (by kernel_rfl) 184 (.tmp 66) rfl w4.heap.size 27 rfl B4 5 Y _ underlying184 rfl wM LNs LN.out ?_))
  exact oF
 |true=>
 cases bO with
 |false=>
  have hr0:res=5:=gN;subst hr0;simp only[Bool.not_false,Bool.not_true]at q3 q4 q5;clear HE5 q7;go_wp2_with(first
   |(refine rF (.load 67 (.tmp 34)) rfl ?_;go_must(refine rG rfl _ _ rfl w4.heap.size 4 rfl B4 18 Y _ underlying67 rfl uL LAd LA.out ?_))
   |(refine rF (.load 184 (.tmp 66)) rfl ?_;refine vf (by kernel_rfl) 184 (.tmp 66) rfl w4.heap.size 27 rfl B4 5 Y _ underlying184 rfl wM LNs LN.out ?_))
  exact oF
 |true=>
 cases bN with
 |false=>
  have hr0:res=5:=gN;subst hr0;simp only[Bool.not_true]at q3 q4 q5;clear HE5 q7;go_wp2_with(first
   |(refine rF (.load 67 (.tmp 34)) rfl ?_;go_must(refine rG rfl _ _ rfl w4.heap.size 4 rfl B4 18 Y _ underlying67 rfl uL LAd LA.out ?_))
   |(refine rF (.load 184 (.tmp 66)) rfl ?_;refine vf (by kernel_rfl) 184 (.tmp 66) rfl w4.heap.size 27 rfl B4 5 Y _ underlying184 rfl wM LNs LN.out ?_))
  exact oF
 |true=>
 cases bR with
 |false=>
  have hr0:res=5:=gN;subst hr0;simp only[Bool.not_true]at q3 q4 q5;have p1:raw≠[]:=by simpa using q7
  have p2:raw.isEmpty=false:=by simpa using p1
  clear HE5 q7;go_wp2_with(first
   |(refine rF (.load 67 (.tmp 34)) rfl ?_;go_must(refine rG rfl _ _ rfl w4.heap.size 4 rfl B4 18 Y _ underlying67 rfl uL LAd LA.out ?_))
   |(refine rF (.load 184 (.tmp 66)) rfl ?_;refine vf (by kernel_rfl) 184 (.tmp 66) rfl w4.heap.size 27 rfl B4 5 Y _ underlying184 rfl wM LNs LN.out ?_))
  exact oF
 |true=>
  have hr0:res=0:=gN;subst hr0;simp only[Bool.not_true]at q3 q4 q5;obtain rfl:=q7.1 I;clear HE5 q7;go_wp2_with(first
   |(refine rF (.load 67 (.tmp 34)) rfl ?_;go_must(refine rG rfl _ _ rfl w4.heap.size 4 rfl B4 18 Y _ underlying67 rfl uL LAd LA.out ?_))
   |(refine rF (.load 184 (.tmp 66)) rfl ?_;refine vf (by kernel_rfl) 184 (.tmp 66) rfl w4.heap.size 27 rfl B4 5 Y _ underlying184 rfl wM LNs LN.out ?_))
  exact oF
abbrev z6:=List (List (List UInt8)×Nat)
def Be(lo:Nat)(w:World)(p:Option Addr):Option z6->Prop
 |none=>p=none
 |some T=>∃g b,p=some ⟨g,0,none⟩/\lo<=g/\lo<=b/\yS w g b T
def sC(T:Option z6)(rU:Int)(n:List (List UInt8)):List UInt8:=match T with
 |none=>xn n
 |some T=>Kv T rU n
def tz(T:Option z6)(rU:Int)(n:List (List UInt8)):Option z6:=T.map fun T=>NF T rU n
def xP(T:Option z6)(k:Nat):Prop:=∀T',T=some T'->T'.length<=k
theorem xP.put{T:Option z6}{k:Nat}(h:xP T k)(rU:Int)(n:List (List UInt8)):xP (tz T rU n) (k+254):=by
 intro T' hT';cases T with
 |none=>cases hT'
 |some T=>
  obtain rfl:NF T rU n=T':=by simpa[tz]using hT'
  have:=h T I;have:=PW T rU n;omega
theorem Be.G{w:World}{p:Option Addr}{T:Option z6}(h:Be lo w p T)(Z:ao w w'):Be lo w' p T:=by
 cases T with
 |none=>exact h
 |some T=>obtain⟨g,b,U,F,h3,h4⟩:=h;exact⟨g,b,U,F,h3,h4.G Z⟩
def yb(lo:Nat)(w w':World):Prop:=Below lo w w'/\∀(g:Nat) (t:TypeId) (cs:Array Value) (fz:Nat×Nat),w.heap[g]?=some (.cells cs t fz)->w'.heap[g]?=some (.cells cs t fz)
theorem yb.sD{w:World}(h:yb lo w w'){cs:List Value}(Z:N w g t cs):N w' g t cs:=h.2 g t cs.toArray (0,0) Z
theorem yb.trans{w w2:World}(h:yb lo w B)(h':yb lo B w2):yb lo w w2:=⟨h.1.trans h'.1,fun g t cs fz Z=>h'.2 g t cs fz (h.2 g t cs fz Z)⟩
theorem NK{w:World}{o:Obj}(h:w.heap[g]?=some o):g<w.heap.size:=(Array.getElem?_eq_some_iff.1 h).1
theorem yb.Bc{w:World}(h:ao w B)(rH:lo<=w.heap.size):yb lo w B:=⟨h.mono rH,fun g t cs fz Z=>(h.block g (NK Z)).trans Z⟩
def Zh(lo:Nat)(p:Option Addr)(s:List UInt8)(e:Int)(T:Option z6)(w:World)(x:Ending)(w':World):Prop:=
 x= .returned (.tuple #[.string (bs s),.int .i64 e])/\Be lo w' p T/\yb lo w w'
theorem EE(lo:Nat)(p:Option Addr)(T:Option z6)(A:Option Addr)(c:Nat)(n:List (List UInt8))(rU:Int)(w:World)(rH:lo<=w.heap.size)(hT:Be lo w p T)(hA:wA w A c n)(hf:xP T 900000):
  Calls prog 155 #[.pointer p,.slice A n.length c,.int .i64 rU] w (Zh lo p (sC T rU n) (rR n) (tz T rU n) w):=by
 cases T with
 |none=>obtain rfl:p=none:=hT;refine(IM A c n rU w hA).mono ?_;rintro _ w' ⟨rfl,hB⟩;exact⟨I,I,yb.Bc hB rH⟩
 |some T=>
  obtain⟨g,b,rfl,F,h3,h4⟩:=hT;refine(Tn g b T A c n rU w h4 hA (hf T I)).mono ?_;rintro _ w' ⟨rfl,h5,h6⟩;have hl:∀(k:Nat) (t:TypeId) (cs:Array Value) (fz:Nat×Nat),w.heap[k]?=some (.cells cs t fz)->some k≠some b:=by obtain⟨_,⟨f,⟨D,⟨es,cl,hm,_⟩,_⟩,_⟩,_⟩:=h4;intro k t cs fz Z he;obtain rfl:=Option.some.inj he;rw[Z]at hm;cases hm
  exact⟨I,⟨g,b,I,F,h3,h5⟩,rE (Below.refl _ _) h6 rH h3,fun k t cs fz Z=>(h6.block k (NK Z) (hl k t cs fz Z)).trans Z⟩
def xQ(T:Option z6)(rU:Int)(r:RR):List UInt8:=
 if sf r.Q r.cl=1 then r.ad.ip.take 4
 else if sf r.Q r.cl=28 then r.ad.ip
 else if sf r.Q r.cl=5\/sf r.Q r.cl=12 then sC T rU r.tg
 else if sf r.Q r.cl=33 then rP 2 r.pri++rP 2 r.we++rP 2 r.po++xn r.tg
 else if sf r.Q r.cl=6 then sC T rU r.tg++sC (tz T rU r.tg) (rU+(sC T rU r.tg).length) r.ml++r.abY.flatMap (rP 4)
 else r.raw
def Dt(T:Option z6)(rU:Int)(r:RR):Option z6:=
 if sf r.Q r.cl=5\/sf r.Q r.cl=12 then tz T rU r.tg
 else if sf r.Q r.cl=6 then tz (tz T rU r.tg) (rU+(sC T rU r.tg).length) r.ml
 else T
theorem Ic{r:RR}(h:r8 r=0):rR r.name=0/\wT r=0:=by
 unfold r8 at h;by_cases U:rR r.name=0
 ·
  refine⟨U,?_⟩;rw[if_neg bh]at h;split at h
  ·omega
  ·
   by_cases F:wT r=0
   ·exact F
   ·rw[if_pos F]at h;exact h
 ·exact qJ
theorem Zi(cs:List Value)(r:RR)(rU:Int)(p:Option Addr)(w:World)(h:yJ w cs r)(hc:r8 r≠0):
  Calls prog 140 #[.agg cs.toArray,.int .i64 rU,.pointer p] w (rW (.tuple #[.string (bs []),.int .i64 (r8 r)]) w):=by
 have CK:=J (fun w' (b:ao w w')=>vN cs r w' (h.G b));have E:cs.length=33:=gC;generalize r8 r=e at*;have he:(e !=0)=true:=iI;clear hc h;have B0:=N.new w 201 cs;have HB0:Below w.heap.size w (w.alloc (.cells cs.toArray 201)):=fZ;go_enter func140,ntmps140;go_wp2_with(refine rF (.load 201 (.tmp 3)) I ?_;go_must(refine rG I _ _ I w.heap.size 0 I B0 33 Y _ underlying201 I ta cs (uH Y) ?_));go_wp2_with fail;refine(CK.out _ HB0).mono ?_;rintro _ w2 ⟨rfl,b2⟩;have Hh:=B0.G b2 B0.lt;have HB:=rC HB0 HB0.size b2;clear B0 HB0 b2 CK;exact pt
theorem Zj(cs:List Value)(r:RR)(rU:Int)(p:Option Addr)(w:World)(h:yJ w cs r)(hc:r8 r=0)(O:sf r.Q r.cl=0):
  Calls prog 140 #[.agg cs.toArray,.int .i64 rU,.pointer p] w (rW (.tuple #[.string (bs r.raw),.int .i64 0]) w):=by
 have CK:=J (fun w' (b:ao w w')=>vN cs r w' (h.G b));have E:cs.length=33:=gC;have L1:cs[1]?=some (.int .i64 r.Q):=gi;have L2:cs[2]?=some (.int .i64 r.cl):=gi;have L32:cs[32]?=some (.string (bs r.raw)):=by obtain⟨_,_,_,_,_,_,rfl,hr,_⟩:=h;exact Ts hr
 have al:=J (fun w=>ti r.Q r.cl w);rw[O]at al;rw[hc]at CK;clear h hc O;generalize r.Q=Q,r.cl=cl at*;have B0:=N.new w 201 cs;have HB0:Below w.heap.size w (w.alloc (.cells cs.toArray 201)):=fZ;go_enter func140,ntmps140;go_wp2_with(refine rF (.load 201 (.tmp 3)) I ?_;go_must(refine rG I _ _ I w.heap.size 0 I B0 33 Y _ underlying201 I ta cs (uH Y) ?_));go_wp2_with fail;refine(CK.out _ HB0).mono ?_;rintro _ w2 ⟨rfl,b2⟩;have Hh:=B0.G b2 B0.lt;have HB:=rC HB0 HB0.size b2;clear B0 HB0 b2 CK;have u1:=Hh.rD 1 L1;have u2:=Hh.rD 2 L2;go_wp2_with fail;refine(al.out _).mono ?_;rintro _ w3 ⟨rfl,rfl⟩;have u32:=Hh.rD 32 L32;clear al u1 u2 L1 L2 L32;exact pt
theorem WB(lo:Nat)(cs:List Value)(r:RR)(rU:Int)(p:Option Addr)(T:Option z6)(w:World)(h:yJ w cs r)(rH:lo<=w.heap.size)(hT:Be lo w p T)(hf:xP T 900000)(hc:r8 r=0)(O:sf r.Q r.cl=5\/sf r.Q r.cl=12):
  Calls prog 140 #[.agg cs.toArray,.int .i64 rU,.pointer p] w (Zh lo p (sC T rU r.tg) (rR r.tg) (tz T rU r.tg) w):=by
 have CK:=J (fun w' (b:ao w w')=>vN cs r w' (h.G b));have E:cs.length=33:=gC;have L1:cs[1]?=some (.int .i64 r.Q):=gi;have L2:cs[2]?=some (.int .i64 r.cl):=gi;obtain⟨At,ct,L22,hR⟩:∃At ct,cs[22]?=some (.slice At r.tg.length ct)/\wA w At ct r.tg:=by exact pR
 have al:=J (fun w=>ti r.Q r.cl w);rw[hc]at CK;clear h hc;have PT:=J (fun w' (b:ao w w')=>EE lo p T At ct r.tg rU w' (Nat.le_trans rH b.size) (hT.G b) (hR.G b) hf);generalize sC T rU r.tg=s at*;generalize tz T rU r.tg=T' at*;generalize rR r.tg=e at*;generalize r.tg.length=n at*;generalize sf r.Q r.cl=k at*;generalize r.Q=Q,r.cl=cl at*;clear hT hf hR;rcases O with rfl|rfl;all_goals
  have B0:=N.new w 201 cs;have HB0:Below w.heap.size w (w.alloc (.cells cs.toArray 201)):=fZ;go_enter func140,ntmps140;go_wp2_with(refine rF (.load 201 (.tmp 3)) I ?_;go_must(refine rG I _ _ I w.heap.size 0 I B0 33 Y _ underlying201 I ta cs (uH Y) ?_));go_wp2_with fail;refine(CK.out _ HB0).mono ?_;rintro _ w2 ⟨rfl,b2⟩;have Hh:=B0.G b2 B0.lt;have HB:=rC HB0 HB0.size b2;clear B0 HB0 b2 CK;have u1:=Hh.rD 1 L1;have u2:=Hh.rD 2 L2;go_wp2_with fail;refine(al.out _).mono ?_;rintro _ w3 ⟨rfl,rfl⟩;have u22:=Hh.rD 22 L22;clear al u1 u2 L1 L2 L22;go_wp2_with fail;refine(PT.out _ HB).mono ?_;rintro _ w3 ⟨rfl,hT3,hB3⟩;go_wp2_with fail;go_ret2;exact⟨I,hT3,(yb.Bc HB rH).trans hB3⟩
theorem aeF{vn vt vm:Value}{r:RR}(h:r.wf)(j:Nat)(hj:j<r.ad.ip.length):(uz vn vt vm r)[5+j]?=some (.int .u8 (r.ad.ip[j].toNat:Int)):=by
 have h16:=h.1;have e:((uz vn vt vm r).drop 4).take 18=r.ad.cells:=IQ h;have e1:(((uz vn vt vm r).drop 4).take 18)[1+j]?=(uz vn vt vm r)[5+j]?:=by rw[List.getElem?_take_of_lt Y,List.getElem?_drop];congr 1;omega
 rw[<-e1,e,sg.cells,Nat.add_comm 1 j,List.getElem?_cons_succ,List.getElem?_append_left (by rw[sI];exact hj),zW _ _ hj]
theorem Vi{w:World}{o:Nat}{L:List Value}(h:N w g t L)(q:List UInt8)(cap:Nat)(hq:∀j (hj:j<q.length),L[o+j]?=some (.int .u8 (q[j].toNat:Int))):
  (convert 101 9 (.slice (some ⟨g,o,none⟩) q.length cap)).run prog w= .ok (.string (bs q)) w:=
 run_convert_bytes_back w 101 9 5 ⟨g,o,none⟩ cap q underlying101 underlying5 underlying9 fun j hj=>by
  have U:=h.rD (o+j) (hq j hj);cases j with
  |zero=>exact U
  |succ j=>exact U
theorem Lr(cs:List Value)(r:RR)(rU:Int)(p:Option Addr)(w:World)(h:yJ w cs r)(hc:r8 r=0)(O:sf r.Q r.cl=1\/sf r.Q r.cl=28):
  Calls prog 140 #[.agg cs.toArray,.int .i64 rU,.pointer p] w (rW (.tuple #[.string (bs (if sf r.Q r.cl=1 then r.ad.ip.take 4 else r.ad.ip)),.int .i64 0]) w):=by
 have CK:=J (fun w' (b:ao w w')=>vN cs r w' (h.G b));have E:cs.length=33:=gC;have L1:cs[1]?=some (.int .i64 r.Q):=gi;have L2:cs[2]?=some (.int .i64 r.cl):=gi;have h16:r.ad.ip.length=16:=by obtain⟨_,_,_,_,_,_,rfl,hr,_⟩:=h;exact hr.1
 have LI:Hid (∀j (hj:j<r.ad.ip.length),cs[5+j]?=some (.int .u8 (r.ad.ip[j].toNat:Int))):=J (by obtain⟨_,_,_,_,_,_,rfl,hr,_⟩:=h;exact fun j hj=>aeF hr j hj);have al:=J (fun w=>ti r.Q r.cl w);rw[hc]at CK;clear h hc;generalize sf r.Q r.cl=k at*;generalize r.ad.ip=ip,r.Q=Q,r.cl=cl at*;rcases O with rfl|rfl
 ·
  rw[if_pos I];have h4:(ip.take 4).length=4:=by simp[h16]
  have B0:=N.new w 201 cs;have HB0:Below w.heap.size w (w.alloc (.cells cs.toArray 201)):=fZ;go_enter func140,ntmps140;go_wp2_with(refine rF (.load 201 (.tmp 3)) I ?_;go_must(refine rG I _ _ I w.heap.size 0 I B0 33 Y _ underlying201 I ta cs (uH Y) ?_));go_wp2_with fail;refine(CK.out _ HB0).mono ?_;rintro _ w2 ⟨rfl,b2⟩;have Hh:=B0.G b2 B0.lt;have HB:=rC HB0 HB0.size b2;clear B0 HB0 b2 CK;have u1:=Hh.rD 1 L1;have u2:=Hh.rD 2 L2;go_wp2_with fail;refine(al.out _).mono ?_;rintro _ w3 ⟨rfl,rfl⟩;have CV:=Vi (o:=5) Hh (ip.take 4) 16 (fun j hj=>by rw[LI.out j Y];simp);rw[h4]at CV;generalize ip.take 4=q at*;clear al u1 u2 L1 L2 LI h16;exact pt
 ·rw[if_neg K];have B0:=N.new w 201 cs;have HB0:Below w.heap.size w (w.alloc (.cells cs.toArray 201)):=fZ;go_enter func140,ntmps140;go_wp2_with(refine rF (.load 201 (.tmp 3)) I ?_;go_must(refine rG I _ _ I w.heap.size 0 I B0 33 Y _ underlying201 I ta cs (uH Y) ?_));go_wp2_with fail;refine(CK.out _ HB0).mono ?_;rintro _ w2 ⟨rfl,b2⟩;have Hh:=B0.G b2 B0.lt;have HB:=rC HB0 HB0.size b2;clear B0 HB0 b2 CK;have u1:=Hh.rD 1 L1;have u2:=Hh.rD 2 L2;go_wp2_with fail;refine(al.out _).mono ?_;rintro _ w3 ⟨rfl,rfl⟩;have CV:=Vi (o:=5) Hh ip 16 (fun j hj=>LI.out j hj);rw[h16]at CV;clear al u1 u2 L1 L2 LI;exact pt
theorem IW(n:Int)(w:World):Calls prog 136 #[.int .i64 2,.int .i64 n] w (rW (.string (bs (rP 2 n))) w):=tK 2 n w
theorem Cr(n:Int)(w:World):Calls prog 136 #[.int .i64 4,.int .i64 n] w (rW (.string (bs (rP 4 n))) w):=tK 4 n w
theorem Zk(cs:List Value)(r:RR)(rU:Int)(p:Option Addr)(w:World)(h:yJ w cs r)(hc:r8 r=0)(O:sf r.Q r.cl=33):
  Calls prog 140 #[.agg cs.toArray,.int .i64 rU,.pointer p] w (rW (.tuple #[.string (bs (rP 2 r.pri++rP 2 r.we++rP 2 r.po++xn r.tg)),.int .i64 (rR r.tg)]) w):=by
 have CK:=J (fun w' (b:ao w w')=>vN cs r w' (h.G b));have E:cs.length=33:=gC;have L1:cs[1]?=some (.int .i64 r.Q):=gi;have L2:cs[2]?=some (.int .i64 r.cl):=gi;obtain⟨At,ct,L22,hR⟩:∃At ct,cs[22]?=some (.slice At r.tg.length ct)/\wA w At ct r.tg:=by exact pR
 have L24:cs[24]?=some (.int .i64 r.pri):=by obtain⟨_,_,_,_,_,_,rfl,hr,_⟩:=h;exact Tp hr
 have L25:cs[25]?=some (.int .i64 r.we):=by obtain⟨_,_,_,_,_,_,rfl,hr,_⟩:=h;exact Tq hr
 have L26:cs[26]?=some (.int .i64 r.po):=by obtain⟨_,_,_,_,_,_,rfl,hr,_⟩:=h;exact Tr hr
 have al:=J (fun w=>ti r.Q r.cl w);have hz:(xn r.tg).length<=255:=by
  unfold xn PV;split
  ·
   next h0=>have:=(ud h0).2;simp[tP];omega
  ·simp
 rw[hc]at CK;rw[O]at al;clear h hc O;have PT:=J (fun w' (b:ao w w')=>IM At ct r.tg rU w' (hR.G b));generalize xn r.tg=z at*;generalize rR r.tg=e at*;generalize r.tg.length=n,r.Q=Q,r.cl=cl at*;clear hR;have P1:=J (fun w=>IW r.pri w);have P2:=J (fun w=>IW r.we w);have P3:=J (fun w=>IW r.po w);have l1:=rL 2 r.pri;have l2:=rL 2 r.we;have l3:=rL 2 r.po;generalize rP 2 r.pri=s1 at*;generalize rP 2 r.we=s2 at*;generalize rP 2 r.po=s3 at*;generalize r.pri=pri,r.we=we,r.po=po at*;have B0:=N.new w 201 cs;have HB0:Below w.heap.size w (w.alloc (.cells cs.toArray 201)):=fZ;go_enter func140,ntmps140;go_wp2_with(refine rF (.load 201 (.tmp 3)) I ?_;go_must(refine rG I _ _ I w.heap.size 0 I B0 33 Y _ underlying201 I ta cs (uH Y) ?_));go_wp2_with fail;refine(CK.out _ HB0).mono ?_;rintro _ w2 ⟨rfl,b2⟩;have Hh:=B0.G b2 B0.lt;have HB:=rC HB0 HB0.size b2;clear B0 HB0 b2 CK;have u1:=Hh.rD 1 L1;have u2:=Hh.rD 2 L2;go_wp2_with fail;refine(al.out _).mono ?_;rintro _ w3 ⟨rfl,rfl⟩;have u22:=Hh.rD 22 L22;clear al u1 u2 L1 L2 L22;go_wp2_with fail;refine(PT.out _ HB).mono ?_;rintro _ w3 ⟨rfl,hB3⟩;have B3:=Hh.G hB3 Hh.lt;have HB3:=rC HB HB.size hB3;clear Hh HB hB3 PT;go_wp2_with fail;refine vp (by kernel_rfl) (by kernel_rfl) ?_
 (refine rK (v:=(.pointer (some ⟨w.heap.size,24,none⟩))) I (fun W hW=>by first|(go_simp;done)|(go_simp;omega)) ?_;simp only[X])
 refine tE 3 (.tmp 54) I ⟨w.heap.size,24,none⟩ I I (fun W hW=>rQ underlying3 I ((B3.G hW B3.lt).rD 24 L24)) ?_;simp only[X];refine tL 136 #[.int .i64 2,.int .i64 pri] I (fun W=>by go_simp) (fun W hW=>rW.Bc hW (P1.out W)) ?_;simp only[X]
 (refine rK (v:=(.pointer (some ⟨w.heap.size,25,none⟩))) I (fun W hW=>by first|(go_simp;done)|(go_simp;omega)) ?_;simp only[X])
 refine tE 3 (.tmp 57) I ⟨w.heap.size,25,none⟩ I I (fun W hW=>rQ underlying3 I ((B3.G hW B3.lt).rD 25 L25)) ?_;simp only[X];refine tL 136 #[.int .i64 2,.int .i64 we] I (fun W=>by go_simp) (fun W hW=>rW.Bc hW (P2.out W)) ?_;simp only[X]
 (refine rK (v:=(.string (bs (s1++s2)))) I (fun W hW=>by first|(go_simp;done)|(go_simp;omega)) ?_;simp only[X])
 (refine rK (v:=(.pointer (some ⟨w.heap.size,26,none⟩))) I (fun W hW=>by first|(go_simp;done)|(go_simp;omega)) ?_;simp only[X])
 refine tE 3 (.tmp 61) I ⟨w.heap.size,26,none⟩ I I (fun W hW=>rQ underlying3 I ((B3.G hW B3.lt).rD 26 L26)) ?_;simp only[X];refine tL 136 #[.int .i64 2,.int .i64 po] I (fun W=>by go_simp) (fun W hW=>rW.Bc hW (P3.out W)) ?_;simp only[X]
 (refine rK (v:=(.string (bs (s1++s2++s3)))) I (fun W hW=>by first|(go_simp;done)|(go_simp;omega)) ?_;simp only[X])
 (refine rK (v:=(.string (bs z))) I (fun W hW=>by first|(go_simp;done)|(go_simp;omega)) ?_;simp only[X])
 (refine rK (v:=(.string (bs (s1++s2++s3++z)))) I (fun W hW=>by first|(go_simp;done)|(go_simp;omega)) ?_;simp only[X])
 (refine rK (v:=(.int .i64 e)) I (fun W hW=>by first|(go_simp;done)|(go_simp;omega)) ?_;simp only[X])
 (refine rK (v:=(.string (bs (s1++s2++s3++z)))) I (fun W hW=>by first|(go_simp;done)|(go_simp;omega)) ?_;simp only[X])
 (refine rK (v:=(.int .i64 e)) I (fun W hW=>by first|(go_simp;done)|(go_simp;omega)) ?_;simp only[X])
 refine wpQuiet_nil ?_;intro w4 hB4;have HB4:=rC HB3 HB3.size hB4;clear B3 HB3 hB4;go_wp2_with fail;go_ret2;exact rW.mk I HB4
theorem Vj(T:z6)(rU:Int):∀(n:List (List UInt8)) (pre:List UInt8),(DH T rU pre n).1.length<=pre.length+sq n+2
 |[],pre=>by simp[DH,sq]
 |l::n,pre=>by
  cases h:look T (l::n)with
  |some q=>rw[Es h];simp[rL]
  |none=>rw[Iz h];have ih:=Vj T rU n (pre++xE l);rw[List.length_append,Ci]at ih;simp only[sq];omega
theorem vC(T:Option z6)(rU:Int)(n:List (List UInt8)):(sC T rU n).length<=300:=by
 cases T with
 |none=>
  unfold sC xn PV;dsimp only;split
  ·
   next h=>have:=(ud h).2;simp[tP];omega
  ·simp
 |some T=>
  unfold sC Kv;dsimp only;split
  ·
   next h=>have:=(ud h).2;have:=Vj T rU n [];simp at this;omega
  ·simp
theorem Tw(lo:Nat)(cs:List Value)(r:RR)(rU:Int)(p:Option Addr)(T:Option z6)(w0 w:World)(h:yJ w0 cs r)(h0:w0.heap.size<=lo)(hb0:ao w0 w)(rH:lo<=w.heap.size)(hT:Be lo w p T)(hf:xP T 800000)(ha0:0<=rU)(ha1:rU<=9000000)(ht:rR r.tg=0)(hm:rR r.ml=0):
  Calls prog 157 #[.agg cs.toArray,.int .i64 rU,.pointer p] w (Zh lo p (sC T rU r.tg++sC (tz T rU r.tg) (rU+(sC T rU r.tg).length) r.ml++r.abY.flatMap (rP 4)) 0 (tz (tz T rU r.tg) (rU+(sC T rU r.tg).length) r.ml) w):=by
 obtain⟨An,cn,At,ct,Am,cm,hcs,hr,hN,hTg,hMl,aiS⟩:=h;have E:cs.length=33:=lW;have L22:cs[22]?=some (.slice At r.tg.length ct):=by rw[hcs];exact DR hr
 have L23:cs[23]?=some (.slice Am r.ml.length cm):=by rw[hcs];exact To hr
 have LN:Hid ((cs.drop 27).take 5=sO r.abY):=J (by rw[hcs];exact IU hr);have hn5:=hr.2;clear hcs hN aiS hr;have s1l:=vC T rU r.tg;have s2l:=vC (tz T rU r.tg) (rU+(sC T rU r.tg).length) r.ml;have P1:=J (fun w' (b:ao w w')=>EE lo p T At ct r.tg rU w' (Nat.le_trans rH b.size) (hT.G b) ((hTg.G hb0).G b) (fun T' h=>Nat.le_trans (hf T' h) Y));have P2:=J (fun w' (b:Below lo w w') (api:lo<=w'.heap.size) (hT':Be lo w' p (tz T rU r.tg))=>EE lo p (tz T rU r.tg) Am cm r.ml (rU+(sC T rU r.tg).length) w' api hT' (hMl.G (hb0.trans (b.mono h0))) (fun T' h=>Nat.le_trans ((hf.put rU r.tg) T' h) Y));rw[ht]at P1;rw[hm]at P2;have hB0:Below w.heap.size w (w.alloc (.cells cs.toArray 201)):=fZ;have Z:=N.new w 201 cs;have u22:=Z.rD 22 L22;clear hT hf hTg hMl L22 ht hm hb0;generalize tz (tz T rU r.tg) (rU+(sC T rU r.tg).length) r.ml=T2 at*;generalize sC (tz T rU r.tg) (rU+(sC T rU r.tg).length) r.ml=s2 at*;generalize sC T rU r.tg=s1 at*;generalize tz T rU r.tg=T1 at*;generalize r.tg.length=ntg,r.ml.length=nml,r.abY=abY at*;obtain⟨out,ark⟩:∃out,out=s1++s2++abY.flatMap (rP 4):=gh;rw[<-ark];have HO:=J ark;clear ark;go_enter func157,ntmps157;go_wp2_with fail;refine(P1.out _ hB0).mono ?_;rintro _ w2 ⟨rfl,hT2,hB2⟩;have B2:=hB2.sD Z;have HB2:yb lo w w2:=(yb.Bc hB0 rH).trans hB2;have au7:lo<=w2.heap.size:=Nat.le_trans rH HB2.1.size;have u23:=B2.rD 23 L23;clear P1 u22 hB2 Z hB0 L23;go_wp2_with fail;refine(P2.out _ HB2.1 au7 hT2).mono ?_;rintro _ w3 ⟨rfl,hT3,hB3⟩;have B3:=hB3.sD B2;have HB3:yb lo w w3:=HB2.trans hB3;have au6:lo<=w3.heap.size:=Nat.le_trans rH HB3.1.size;clear P2 u23 hB3 hT2 B2 HB2 au7;obtain⟨n0,n1,n2,n3,n4,rfl⟩:∃n0 n1 n2 n3 n4,abY=[n0,n1,n2,n3,n4]:=by
  match abY,hn5 with
  |[a,b,c,d,e],_=>exact⟨a,b,c,d,e,I⟩
 clear hn5;have HLN:=LN.out;clear LN;have l0:=rL 4 n0;have l1:=rL 4 n1;have l2:=rL 4 n2;have l3:=rL 4 n3;have l4:=rL 4 n4;have Q0:=J (fun w=>Cr n0 w);have Q1:=J (fun w=>Cr n1 w);have Q2:=J (fun w=>Cr n2 w);have Q3:=J (fun w=>Cr n3 w);have Q4:=J (fun w=>Cr n4 w);have HO:Hid (out=s1++s2++(rP 4 n0++(rP 4 n1++(rP 4 n2++(rP 4 n3++rP 4 n4))))):=J (by rw[HO.out];simp);generalize rP 4 n0=q0 at*;generalize rP 4 n1=q1 at*;generalize rP 4 n2=q2 at*;generalize rP 4 n3=q3 at*;generalize rP 4 n4=q4 at*;have HL:=J HLN;clear HLN;go_wp2_with(refine rF (.load 184 (.tmp 42)) I ?_;go_must(refine rG I _ _ I w.heap.size 27 I B3 5 Y _ underlying184 I wM [.int .i64 n0,.int .i64 n1,.int .i64 n2,.int .i64 n3,.int .i64 n4] HL.out ?_));clear HL B3;have I0:∀w:World,(Instr.index 184 (.agg #[.int .i64 n0,.int .i64 n1,.int .i64 n2,.int .i64 n3,.int .i64 n4]) (.int .i64 0)).run prog w= .ok (.int .i64 n0) w:=fun _=>by kernel_rfl
 have I1:∀w:World,(Instr.index 184 (.agg #[.int .i64 n0,.int .i64 n1,.int .i64 n2,.int .i64 n3,.int .i64 n4]) (.int .i64 1)).run prog w= .ok (.int .i64 n1) w:=fun _=>by kernel_rfl
 have I2:∀w:World,(Instr.index 184 (.agg #[.int .i64 n0,.int .i64 n1,.int .i64 n2,.int .i64 n3,.int .i64 n4]) (.int .i64 2)).run prog w= .ok (.int .i64 n2) w:=fun _=>by kernel_rfl
 have I3:∀w:World,(Instr.index 184 (.agg #[.int .i64 n0,.int .i64 n1,.int .i64 n2,.int .i64 n3,.int .i64 n4]) (.int .i64 3)).run prog w= .ok (.int .i64 n3) w:=fun _=>by kernel_rfl
 have I4:∀w:World,(Instr.index 184 (.agg #[.int .i64 n0,.int .i64 n1,.int .i64 n2,.int .i64 n3,.int .i64 n4]) (.int .i64 4)).run prog w= .ok (.int .i64 n4) w:=fun _=>by kernel_rfl
 refine wp_loop_rounds 6 ?_;rw[rounds_succ];go_wp2_with fail;refine(Q0.out _).mono ?_;rintro _ w4 ⟨rfl,b4⟩;have HB4:yb lo w w4:=HB3.trans (yb.Bc b4 au6);have hT4:=hT3.G b4;have aif:lo<=w4.heap.size:=Nat.le_trans rH HB4.1.size;clear Q0 I0 HB3 hT3 b4 au6;go_wp2_with fail;rw[rounds_succ];go_wp2_with fail;refine(Q1.out _).mono ?_;rintro _ w5 ⟨rfl,b5⟩;have HB5:yb lo w w5:=HB4.trans (yb.Bc b5 aif);have hT5:=hT4.G b5;have anz:lo<=w5.heap.size:=Nat.le_trans rH HB5.1.size;clear Q1 I1 HB4 hT4 b5 aif;go_wp2_with fail;rw[rounds_succ];go_wp2_with fail;refine(Q2.out _).mono ?_;rintro _ w6 ⟨rfl,b6⟩;have HB6:yb lo w w6:=HB5.trans (yb.Bc b6 anz);have hT6:=hT5.G b6;have anx:lo<=w6.heap.size:=Nat.le_trans rH HB6.1.size;clear Q2 I2 HB5 hT5 b6 anz;go_wp2_with fail;rw[rounds_succ];go_wp2_with fail;refine(Q3.out _).mono ?_;rintro _ w7 ⟨rfl,b7⟩;have HB7:yb lo w w7:=HB6.trans (yb.Bc b7 anx);have hT7:=hT6.G b7;have apg:lo<=w7.heap.size:=Nat.le_trans rH HB7.1.size;clear Q3 I3 HB6 hT6 b7 anx;go_wp2_with fail;rw[rounds_succ];go_wp2_with fail;refine(Q4.out _).mono ?_;rintro _ w8 ⟨rfl,b8⟩;have HB8:yb lo w w8:=HB7.trans (yb.Bc b8 apg);have hT8:=hT7.G b8;have aLp:lo<=w8.heap.size:=Nat.le_trans rH HB8.1.size;clear Q4 I4 HB7 hT7 b8 apg;go_wp2_with fail;rw[rounds_succ];go_wp2_with fail;go_ret2;exact⟨Y9 (by rw[HO.out];simp),hT8,HB8⟩
theorem Zl(lo:Nat)(cs:List Value)(r:RR)(rU:Int)(p:Option Addr)(T:Option z6)(w0 w:World)(h:yJ w0 cs r)(h0:w0.heap.size<=lo)(hb0:ao w0 w)(rH:lo<=w.heap.size)(hT:Be lo w p T)(hf:xP T 800000)(ha0:0<=rU)(ha1:rU<=9000000)(hc:r8 r=0)(O:sf r.Q r.cl=6):
  Calls prog 140 #[.agg cs.toArray,.int .i64 rU,.pointer p] w (Zh lo p (sC T rU r.tg++sC (tz T rU r.tg) (rU+(sC T rU r.tg).length) r.ml++r.abY.flatMap (rP 4)) 0 (tz (tz T rU r.tg) (rU+(sC T rU r.tg).length) r.ml) w):=by
 have hE:=(Ic hc).2;have hE6:wT r=(if rR r.tg≠0 then rR r.tg else if rR r.ml≠0 then rR r.ml else if r.abY.all (xG 4294967295)then 0 else 4):=iz;rw[hE6]at hE;have ht:rR r.tg=0:=by
  by_cases U:rR r.tg=0
  ·exact U
  ·rw[if_pos U]at hE;exact hE
 have hm:rR r.ml=0:=by
  rw[if_neg (by simp[ht])]at hE;by_cases U:rR r.ml=0
  ·exact U
  ·rw[if_pos U]at hE;exact hE
 have hw:=h.G hb0;have CK:=J (fun w' (b:ao w w')=>vN cs r w' (hw.G b));have E:cs.length=33:=gC;have L1:cs[1]?=some (.int .i64 r.Q):=gi;have L2:cs[2]?=some (.int .i64 r.cl):=gi;have al:=J (fun w=>ti r.Q r.cl w);rw[hc]at CK;rw[O]at al;have PT:=J (fun w' (b:ao w w')=>Tw lo cs r rU p T w0 w' h h0 (rC hb0 hb0.size b) (Nat.le_trans rH b.size) (hT.G b) hf ha0 ha1 ht hm);clear h hc O hE hE6 hT hf ht hm hw hb0;generalize sC T rU r.tg++sC (tz T rU r.tg) (rU+(sC T rU r.tg).length) r.ml++r.abY.flatMap (rP 4)=out at*;generalize tz (tz T rU r.tg) (rU+(sC T rU r.tg).length) r.ml=T2 at*;generalize r.Q=Q,r.cl=cl at*;have B0:=N.new w 201 cs;have HB0:Below w.heap.size w (w.alloc (.cells cs.toArray 201)):=fZ;go_enter func140,ntmps140;go_wp2_with(refine rF (.load 201 (.tmp 3)) I ?_;go_must(refine rG I _ _ I w.heap.size 0 I B0 33 Y _ underlying201 I ta cs (uH Y) ?_));go_wp2_with fail;refine(CK.out _ HB0).mono ?_;rintro _ w2 ⟨rfl,b2⟩;have Hh:=B0.G b2 B0.lt;have HB:=rC HB0 HB0.size b2;clear B0 HB0 b2 CK;have u1:=Hh.rD 1 L1;have u2:=Hh.rD 2 L2;go_wp2_with fail;refine(al.out _).mono ?_;rintro _ w3 ⟨rfl,rfl⟩;clear al u1 u2 L1 L2;go_wp2_with(refine rF (.load 201 (.tmp 3)) I ?_;go_must(refine rG I _ _ I w.heap.size 0 I Hh 33 Y _ underlying201 I ta cs (uH Y) ?_));go_wp2_with fail;refine(PT.out _ HB).mono ?_;rintro _ w4 ⟨rfl,hT4,hB4⟩;clear PT;go_wp2_with fail;go_ret2;exact⟨I,hT4,(yb.Bc HB rH).trans hB4⟩
def PY(T:Option z6)(rU:Int)(r:RR):List UInt8:=if r8 r=0 then xQ T rU r else[]
def PZ(T:Option z6)(rU:Int)(r:RR):Option z6:=if r8 r=0 then Dt T rU r else T
theorem Zm(lo:Nat)(cs:List Value)(r:RR)(rU:Int)(p:Option Addr)(T:Option z6)(w0 w:World)(h:yJ w0 cs r)(h0:w0.heap.size<=lo)(hb0:ao w0 w)(rH:lo<=w.heap.size)(hT:Be lo w p T)(hf:xP T 800000)(ha0:0<=rU)(ha1:rU<=9000000):
  Calls prog 140 #[.agg cs.toArray,.int .i64 rU,.pointer p] w (Zh lo p (PY T rU r) (r8 r) (PZ T rU r) w):=by
 have hw:=h.G hb0;by_cases hc:r8 r=0
 ·
  unfold PY PZ;rw[if_pos hc,if_pos hc,hc];have hE:=(Ic hc).2;rcases Cq r.Q r.cl with O|O|O|O|O|O
  ·refine(Lr cs r rU p w hw hc (.inl O)).mono ?_;exact oz
  ·refine(Lr cs r rU p w hw hc (.inr O)).mono ?_;exact oz
  ·
   have e1:xQ T rU r=sC T rU r.tg:=by unfold xQ;rcases O with O|O<;>rw[O]<;>rfl
   have e2:Dt T rU r=tz T rU r.tg:=by unfold Dt;rcases O with O|O<;>rw[O]<;>rfl
   have e3:rR r.tg=0:=by rw[<-hE];unfold wT;rcases O with O|O<;>rw[O]<;>rfl
   rw[e1,e2];have:=WB lo cs r rU p T w hw rH hT (fun T' h=>Nat.le_trans (hf T' h) Y) hc O;rwa[e3]at this
  ·
   refine(Zk cs r rU p w hw hc O).mono ?_;rintro _ w' ⟨rfl,hB⟩;have e1:xQ T rU r=rP 2 r.pri++rP 2 r.we++rP 2 r.po++xn r.tg:=im;have e2:Dt T rU r=T:=iy;have e3:rR r.tg=0:=by
    have e4:wT r=(if[r.pri,r.we,r.po].all (xG 65535)=true then rR r.tg else 4):=iz;rw[e4]at hE;split at hE
    ·exact hE
    ·cases hE
   rw[e1,e2,e3];exact oW
  ·have e1:xQ T rU r=sC T rU r.tg++sC (tz T rU r.tg) (rU+(sC T rU r.tg).length) r.ml++r.abY.flatMap (rP 4):=im;have e2:Dt T rU r=tz (tz T rU r.tg) (rU+(sC T rU r.tg).length) r.ml:=iy;rw[e1,e2];exact Zl lo cs r rU p T w0 w h h0 hb0 rH hT hf ha0 ha1 hc O
  ·refine(Zj cs r rU p w hw hc O).mono ?_;rintro _ w' ⟨rfl,hB⟩;have e1:xQ T rU r=r.raw:=im;have e2:Dt T rU r=T:=iy;rw[e1,e2];exact oW
 ·unfold PY PZ;rw[if_neg hc,if_neg hc];refine(Zi cs r rU p w hw hc).mono ?_;rintro _ w' ⟨rfl,hB⟩;exact oW
end Go.Proofs.YtakkipnmpmobbaaGreat
