/-
  Layer 29 (xchg):New.
-/
import Derived.Test.YtakkipnmpmobbaaGreatIHq
import Derived.Test.YtakkipnmpmobbaaGreatIDq
import Derived.Test.YtakkipnmpmobbaaGreatIMq
namespace Go.Proofs.YtakkipnmpmobbaaGreat
open _root_.Go.Proofs.Tryz
set_option maxHeartbeats 8000000
open Go.RowKit
set_option maxRecDepth 100000
set_option linter.unusedVariables false
set_option linter.unusedSimpArgs false
variable {w:World} {g gl:Nat}
theorem adb(q:Qn)(id:Int)(e:Bool)(h:rR q.name=0):(Cc (ug q id e) false).1.length<=65535:=by
 have hn:=(ud h).2;have hp:(uB (Ky id) (1:Nat) (0:Nat) (0:Nat) ((ug q id e).ex.length:Nat)).length=12:=by simp[uB,rL]
 cases e with
 |false=>show((uB (Ky id) (1:Nat) (0:Nat) (0:Nat) (0:Nat))++xn q.name++rP 2 q.Q++rP 2 q.cl).length<=65535;simp only[List.length_append,rL];have F:(xn q.name).length=sq q.name+1:=jR;have hp':(uB (Ky id) (1:Nat) (0:Nat) (0:Nat) (0:Nat)).length=12:=hp;omega
 |true=>
  show(r7 ((uB (Ky id) (1:Nat) (0:Nat) (0:Nat) (1:Nat))++xn q.name++rP 2 q.Q++rP 2 q.cl,none) NU).1.length<=65535;have hp':(uB (Ky id) (1:Nat) (0:Nat) (0:Nat) (1:Nat)).length=12:=hp;have F:(xn q.name).length=sq q.name+1:=jR;have h3:∀T k,xQ T k NU=[]:=fun T k=>rfl
  unfold r7 yA;rw[h3];unfold xF;have h4:(xn NU.name).length=1:=K;simp only[List.length_append,rL,List.length_nil,sC];omega
theorem ae1{q:Qn}{id0:Int}{e0:Bool}(h:(tM (ug q id0 e0) false).2=0)(id:Int)(e:Bool)(U:0<=id)(F:id<=65535):(tM (ug q id e) false).2=0:=by
 have hq:qE q=0:=by
  unfold tM at h;split at h
  ·rename_i hc;exact absurd h hc
  ·
   rename_i hc;have hc:=Decidable.not_not.1 hc;unfold uf at hc;split at hc
   ·cases hc
   ·
    split at hc
    ·cases hc
    ·
     split at hc
     ·rename_i hf;exact absurd hc hf
     ·
      rename_i hf;have hf:=Decidable.not_not.1 hf;unfold ug at hf;simp only[List.map_cons,List.map_nil,vw]at hf;split at hf
      ·rename_i h;exact absurd hf h
      ·rename_i h;exact Decidable.not_not.1 h
 have hN:rR q.name=0:=by
  unfold qE at hq;split at hq
  ·rename_i h;exact absurd hq h
  ·rename_i h;exact Decidable.not_not.1 h
 exact m9
theorem ade(v1 v2 v3 vn:Value)(r:Rs)(q:Qn)(A:Option Addr)(n c gl:Nat)(W:World):(Instr.build 173 #[(0,.agg (zQ v1 v2 v3 r).toArray),(1,.agg (qC vn q).toArray),(2,.slice A n c),(3,.pointer (some ⟨gl,0,none⟩))]).run prog W= .ok (.agg (xI (zQ v1 v2 v3 r) vn q (.slice A n c) gl 0 .nilFunc qyZ false none 0 0 false false 0 sV).toArray) W:=by kernel_rfl
def Rv(gl:Nat)(r:XR)(w:World)(e:Ending)(w':World):Prop:=∃g v D,e= .returned (.tuple #[.pointer (some ⟨g,0,none⟩),v])/\tf w.heap.size w' v r.2.2/\tJ w' g gl D r.1/\sE w' gl r.2.1/\Fr (fun i=>i=gl) w w'/\w.heap.size<=g/\∀i,D=some i->w.heap.size<=i
theorem XV{w0:World}{v:Value}{l:List sg}(h:JF w0 0 v l):∀a∈l,a.ip.length=16:=by
 obtain⟨css,_,h⟩:=h;have key:∀{css:List (List Value)} {l:List sg},wO XG css l->∀a∈l,a.ip.length=16:=by
  intro css l;induction l generalizing css with
  |nil=>intro _ a ha;cases ha
  |cons x l ih=>
   intro h a ha;match css,h with
   |_::_,h=>
    rcases List.mem_cons.1 ha with rfl|ha
    ·obtain⟨_,_,h⟩:=h.1;exact h
    ·exact ih h.2 a ha
 exact key h
theorem aa6(cs:List Value)(r:Rs)(q:Qn)(A:Option Addr)(c:Nat)(turn:Int)(gl:Nat)(L:Lt)(w:World)(h:yc w cs r)(hN:wA w A c q.name)(hn:q.name.length<=100000)(E:sE w gl L)(hu:L.us<=999999990)(hd:L.ds.length<=17592186044416):
  Calls prog 96 #[.agg cs.toArray,.agg (qC (.slice A q.name.length c) q).toArray,.int .i64 turn,.pointer (some ⟨gl,0,none⟩)] w (Rv gl (Dv (rT r).tmo (rT r).vc (rT r).ed q (uy r turn) L) w):=by
 obtain⟨R,hR⟩:=aq (Dv (rT r).tmo (rT r).vc (rT r).ed q (uy r turn) L);rw[hR.out];have hcl:=h.len;have HX:Below w.heap.size w ((w.alloc (.cells cs.toArray 29)).alloc (.cells (qC (.slice A q.name.length c) q).toArray 160)):=gF;have B0:=(N.new w 29 cs).alloc (.cells (qC (.slice A q.name.length c) q).toArray 160);have B1:=N.uE (w.alloc (.cells cs.toArray 29)) 160 (qC (.slice A q.name.length c) q) (w.heap.size+1) ar;obtain⟨B,hw1⟩:=aq ((w.alloc (.cells cs.toArray 29)).alloc (.cells (qC (.slice A q.name.length c) q).toArray 160));rw[hw1.out]at HX B0 B1;have CL:=J (yn A c q.name _ (hN.G HX) hn);have hll:Hid (∀l∈q.name,l.length<=140737488355328):=J hN.2.2.2;have a0:=B1.rD 0 (u:=.slice A q.name.length c) I;have HRS:=Lib.hid h;have HLT:=J E;clear h hN E;unfold qC at hw1;show Calls prog 96 #[.agg cs.toArray,.agg #[.slice A q.name.length c,.int .i64 q.Q,.int .i64 q.cl],.int .i64 turn,.pointer (some ⟨gl,0,none⟩)] w (Rv gl R w);have hnl:q.name.length<=17592186044416:=Y;generalize hnn:q.name.length=nl at*;have HNN:=J hnn;clear hnn;go_enter func96,ntmps96;go_wp2_with fail;rw[hw1.out];refine CL.out.mono ?_;rintro _ w1b ⟨A1,c1,hv,anh,b1⟩;rw[HNN.out]at hv;subst hv;have C0:=B0.G b1 B0.lt;have C1:=B1.G b1 B1.lt;have H1:=rC HX HX.size b1;clear CL b1 B0 B1 a0 HX;go_wp2_with(refine rF (.store 24 (.tmp 16) (.tmp 15)) I (af I (w.heap.size+1) 0 (.slice A1 nl c1) C1 (by simp[qC]) wS ?_));intro w2 D1 g2 sw;clear sw;have D0:=C0.grown g2 ar;have H2:=rE H1 g2 H1.size Y;have al5:=tY anh g2 C1 K;have hT2:tw w2 (.slice A1 q.name.length c1) q.name:=xi al5;rw[HNN.out]at hT2;have hN2:Mq w2 (.slice A1 nl c1) q.name:=⟨hT2,by rw[HNN.out];exact hn,hll.out⟩;rw[show(qC (.slice A nl c) q).set 0 (.slice A1 nl c1)=[.slice A1 nl c1,.int .i64 q.Q,.int .i64 q.cl]from I]at D1;have HN2:=J hN2;have aw9:=J (HLT.out.G H2);have RB0:=J (HRS.out);obtain⟨e1,e2,e3,e4,e5,e6,hcs,-⟩:=HRS.out;have RBC:Hid (∀V,(Instr.build 33 #[(0,.agg cs.toArray)]).run prog V= .ok (.agg (cs++[rI,rI,rI]).toArray) V):=J (fun V=>by rw[hcs];exact JC ..);clear hcs;have SH:=J (fun V (hV:ao w V)=>Hf w cs r V HRS.out hV);have TR:=J (fun V (hV:ao w V)=>MA w cs r turn V HRS.out hV);have LR:Hid (∀V,ao w2 V->(Instr.loadAt 29 (.pointer (some ⟨w.heap.size,0,none⟩))).run prog V= .ok (.agg cs.toArray) V):=J (fun V hV=>(D0.G hV D0.lt).tW 29 0 10 Y _ underlying29 I wE _ (uH Y));have LQ:Hid (∀V,ao w2 V->(Instr.loadAt 160 (.pointer (some ⟨w.heap.size+1,0,none⟩))).run prog V= .ok (.agg #[.slice A1 nl c1,.int .i64 q.Q,.int .i64 q.cl]) V):=J (fun V hV=>(D1.G hV D1.lt).tW 160 0 3 ar _ underlying160 I xS _ I);clear anh al5 hT2 hN2 C0 C1 D0 D1 g2 H1 HRS hll hnl;obtain⟨tl,htl⟩:=aq (uy r turn);rw[htl.out]at TR;obtain⟨nt,hnt⟩:=aq tl.length;go_upto_region 3 with fail;go_cut[10] (fun v10 wx=>∃gx XC v1 v2 v3 At ct,v10= .pointer (some ⟨gx,0,none⟩)/\N wx gx 173 XC/\XC=xI (zQ v1 v2 v3 (rT r)) (.slice A1 nl c1) q (.slice At nt ct) gl 0 .nilFunc qyZ false none 0 0 false false 0 sV/\True/\Jw w wx (zQ v1 v2 v3 (rT r)) (rT r)/\JF wx 0 (.slice At nt ct) tl/\ao w2 wx/\w2.heap.size<=gx)
 case first=>
  refine wp_region_held_drew (S:=fun V=>ao w2 V) (by kernel_rfl) (Below.refl _ _).drew (fun hS=>?_);refine rS hS 6 [0,1,4,5,6,8] I (by kernel_rfl) (fun _ _ _ _ _ h=>h) I I ?_
  (refine aj _ I I (fun V hV=>(rX 29 (.tmp 4) ⟨w.heap.size,0,none⟩ I I (LR.out V hV))) ?_;simp only[X])
  (refine aj (.agg (cs++[rI,rI,rI]).toArray) I I (fun V hV=>(wm 33 _ I #[(0,.agg cs.toArray)] (by kernel_rfl) (RBC.out V))) ?_;simp only[X])
  (refine aj _ I I (fun V hV=>(rX 160 (.tmp 5) ⟨w.heap.size+1,0,none⟩ I I (LQ.out V hV))) ?_;simp only[X])
  (refine aj _ I I (fun V hV=>(rX 29 (.tmp 4) ⟨w.heap.size,0,none⟩ I I (LR.out V hV))) ?_;simp only[X])
  repeat(refine ak _ ?_;simp only[X])
  simp only[sS];refine rV 2 (by kernel_rfl) ?_;refine sZ 2 (some 19) 34 #[.agg (cs++[rI,rI,rI]).toArray] I I (by kernel_rfl) bc (SH.out _ (rC H2 H2.size hS)) ?_;rintro _ w3 ⟨cs1,u1,u2,u3,rfl,RO,b3⟩;have hl1:=RO.len;have hS3:=rC hS hS.size b3;refine⟨_,I,hS3,?_⟩;clear hS b3;have hS:=hS3;clear hS3;simp only[X];refine rS hS 1 [3] I (by kernel_rfl) (fun _ _ _ _ _ h=>h) I I ?_
  (refine aj (.agg cs1.toArray) I I (fun V hV=>(AO 33 (.tmp 19) 0 I I (Il cs1 hl1 u1 u2 u3 V))) ?_;simp only[X])
  simp only[sS];refine rV 7 (by kernel_rfl) ?_;refine sZ 7 (some 24) 47 #[.agg cs.toArray,.int .i64 turn] I I (by kernel_rfl) bc (TR.out _ (rC H2 H2.size hS)) ?_;rintro _ WA ⟨vt,rfl,TO,b4⟩;obtain⟨At,ct,hvt⟩:=TO.form;rw[hnt.out]at hvt;subst hvt;replace RO:=RO.G b4;have hS4:=rC hS hS.size b4;refine⟨_,I,hS4,?_⟩;clear hS b4;have hS:=hS4;clear hS4;simp only[X];obtain⟨v1,v2,v3,aiB,RO'⟩:=RO;have RO:Jw w WA (zQ v1 v2 v3 (rT r)) (rT r):=⟨v1,v2,v3,I,RO'⟩;have v1':True:=trivial;have RB:=J (fun V=>ade v1 v2 v3 (.slice A1 nl c1) (rT r) q At nt ct gl V);rw[<-aiB]at RB;obtain⟨XC,HXC⟩:∃XC,Hid (XC=xI (zQ v1 v2 v3 (rT r)) (.slice A1 nl c1) q (.slice At nt ct) gl 0 .nilFunc qyZ false none 0 0 false false 0 sV):=ji;rw[aiB,<-HXC.out,<-aiB]at RB;clear RO' SH TR;refine rS hS 1 [9] I (by kernel_rfl) (fun _ _ _ _ _ h=>h) I I ?_
  (refine aj (.agg XC.toArray) I I (fun V hV=>(wm 173 _ I #[(0,.agg cs1.toArray),(1,.agg #[.slice A1 nl c1,.int .i64 q.Q,.int .i64 q.cl]),(2,.slice At nt ct),(3,.pointer (some ⟨gl,0,none⟩))] (by kernel_rfl) (RB.out V))) ?_;simp only[X])
  simp only[sS];have kn:Below WA.heap.size WA (WA.alloc (.cells XC.toArray 173)):=fZ;have hSx:=rC hS hS.size kn;have Bn:=N.new WA 173 XC;have hgz:w2.heap.size<=WA.heap.size:=hS.size;have RO2:=RO.G kn;have TO2:=rJ.G TO kn (fun _ _ h=>h);refine Ew 10 (some 27) (by kernel_rfl) I I (by kernel_rfl) (v:=.pointer (some ⟨WA.heap.size,0,none⟩)) (w':=WA.alloc (.cells XC.toArray 173)) (by kernel_rfl) hSx ?_;simp only[X];clear hS kn RO TO;have hS:=hSx;clear hSx;generalize WA.alloc (.cells XC.toArray 173)=wz at*;generalize WA.heap.size=gz at*;refine rS hS 1 [11] I (by kernel_rfl) (fun _ _ _ _ _ h=>h) I I ?_
  (refine ak (.pointer (some ⟨gz,0,none⟩)) ?_;simp only[X])
  simp only[sS];refine wpAnyH_done (by kernel_rfl) ?_ _;go_wp2_with fail;go_meet
  case rel=>exact⟨gz,XC,v1,v2,v3,At,ct,I,Bn,HXC.out,v1',RO2,TO2,hS,hgz⟩
 obtain⟨gx,XC,v1,v2,v3,At,ct,rfl,BX,hXC,-,RO,TO,H3,hgx⟩:=hcut;obtain⟨w5,rfl⟩:∃w5,w5=wc:=gh;clear SH TR RBC LR;have HW:=rC H2 H2.size H3;have LT5:=aw9.out.G H3;have N5:=HN2.out.rM (rZ.G H3);obtain⟨x0,hx0⟩:∃x0,x0=wY (rT r).tmo (rT r).vc (rT r).ed q tl:=gh;have HRR:Hid (R=if(tM (ug q 0 (rT r).ed) false).2≠0 then({x0 with done:=true,vd:=3,xZ:=tq.zero},L,[])else Bp x0 L):=J (by rw[<-hR.out,htl.out,hx0];rfl);have HXB:ue w5 gx gl (.slice A1 nl c1) x0 .nilFunc false qyZ none:=⟨⟨zQ v1 v2 v3 (rT r),.slice At nt ct,sV,by rw[hx0];rw[hXC]at BX;exact BX,I,by rw[hx0];rfl,by rw[hx0];rfl,by rw[hx0];rfl,by rw[hx0];exact TO,by rw[hx0];exact sA.zero _⟩,by rw[hx0];exact N5,zI⟩;have HST:Hid ((tM (ug q 0 (rT r).ed) false).2=0->x0.st):=J (fun he=>by
  have ht:=AM r turn;rw[htl.out]at ht;rw[hx0];exact⟨XV TO,(Ok r).1,(Ok r).2,by show tl.length<=1000;omega,fun id e U F=>ae1 he id e U F⟩)
 have hdn:x0.done=false:=by rw[hx0];rfl
 have hsn:x0.r6<=1000000:=by rw[hx0];exact Nat.zero_le _
 have BXX:=BX;have d9:∀V,ao w5 V->(Instr.loadAt 4 (.pointer (some ⟨gx,9,none⟩))).run prog V= .ok (.bool (rT r).ed) V:=fun V hV=>rQ underlying4 I ((BXX.G hV BXX.lt).rD 9 (by rw[hXC,Fe I zI 9 Y];rfl))
 have D9:=J d9;have LQ5:Hid (∀V,ao w5 V->(Instr.loadAt 160 (.pointer (some ⟨w.heap.size+1,0,none⟩))).run prog V= .ok (.agg #[.slice A1 nl c1,.int .i64 q.Q,.int .i64 q.cl]) V):=J (fun V hV=>LQ.out V (rC H3 H3.size hV));have BU:Hid (∀V,ao w5 V->Calls prog 107 #[.agg #[.slice A1 nl c1,.int .i64 q.Q,.int .i64 q.cl],.int .i64 0,.bool (rT r).ed] V (rW (.tuple #[.string (bs (tM (ug q 0 (rT r).ed) false).1),.int .i64 (tM (ug q 0 (rT r).ed) false).2]) V)):=J (fun V hV=>by
  obtain⟨A',c',hv,hNR⟩:=N5.form;injection hv with hv1 hv2 hv3;subst hv1 hv3;have:=Gh A1 c1 q 0 (rT r).ed V (hNR.G hV) (by rw[HNN.out];exact hn);rwa[HNN.out]at this)
 have hgw:w.heap.size<=gx:=Nat.le_trans H2.size hgx;have asv:=J HXB;have asB:=J LT5;have HHW:=J HW;have hwc:=HW.size;have TOR:Hid (∀V e w',ao w5 V->xk gx gl none R V e w'->∃v,e= .returned v/\Rv gl R w (.returned (.tuple #[.pointer (some ⟨gx,0,none⟩),v])) w'):=J (fun V e w' hV hx=>by
  have hWV:=rC HW HW.size hV;obtain⟨v,D',rfl,U,F,h3,h4,h5⟩:=hx;refine⟨v,I,gx,v,D',I,U.mono hWV.size,F,h3,(Fr.G (S:=fun i=>i=gl) hWV).trans h4 (fun i hi h=>?_),hgw,fun i hi=>?_⟩
  ·
   rcases h with h|h|h
   ·omega
   ·exact h
   ·cases h
  ·
   rcases h5 i hi with h|h
   ·cases h
   ·
    exact Nat.le_trans hWV.size h)
 have gne:gx≠gl:=by obtain⟨Lc,hLc⟩:=vj LT5;exact uU BX hLc K
 clear LQ HN2 aw9 N5 LT5 HW H2 H3 TO RO hXC BX BXX d9 HXB hR htl;generalize(rT r).ed=ed at*;generalize(tM (ug q 0 ed) false).1=oc at*;generalize(tM (ug q 0 ed) false).2=er at*;clear hx0;go_upto_region 4 with fail;go_cut[10,12] (fun v10 v12 wx=>v10= .pointer (some ⟨gx,0,none⟩)/\v12= .int .i64 er/\ao w5 wx)
 case first=>
  refine wp_region_held_drew (S:=fun V=>ao w5 V) (by kernel_rfl) (Below.refl _ _).drew (fun hS=>?_);refine rS hS 6 [0,1,2,3,4,5] I (by kernel_rfl) (fun _ _ _ _ _ h=>h) I I ?_
  (refine aj _ I I (fun V hV=>(rX 160 (.tmp 5) ⟨w.heap.size+1,0,none⟩ I I (LQ5.out V hV))) ?_;simp only[X])
  repeat(refine ak _ ?_;simp only[X])
  (refine aj _ I I (fun V hV=>(rX 4 (.tmp 33) ⟨gx,9,none⟩ I I (D9.out V hV))) ?_;simp only[X])
  simp only[sS];refine su 6 (some 35) 107 #[.agg #[.slice A1 nl c1,.int .i64 q.Q,.int .i64 q.cl],.int .i64 0,.bool ed] (by kernel_rfl) I I (by kernel_rfl) bc (BU.out _ hS) ?_;rintro _ w4 ⟨rfl,b4⟩;have hS:=rC hS hS.size b4;refine⟨_,I,hS,?_⟩;simp only[X];refine rS hS 5 [7,8,9,10,11] I (by kernel_rfl) (fun _ _ _ _ _ h=>h) I I ?_
  (refine ak (.tuple #[.string (bs oc),.int .i64 er]) ?_;simp only[X])
  (refine ak (.string (bs oc)) ?_;simp only[X])
  (refine ak (.int .i64 er) ?_;simp only[X])
  (refine ak (.string (bs oc)) ?_;simp only[X])
  (refine ak (.int .i64 er) ?_;simp only[X])
  simp only[sS];refine wpAnyH_done (by kernel_rfl) ?_ _;go_wp2_with fail;go_meet
  case rel=>exact⟨I,I,hS⟩
 obtain⟨rfl,rfl,H6⟩:=hcut;have BG:Hid (er=0->Calls prog 109 #[.pointer (some ⟨gx,0,none⟩)] wc (xk gx gl none (Bp x0 L) wc)):=J (fun h0=>MI gx gl _ x0 L _ _ _ none _ (asv.out.G H6) (asB.out.G H6) (HST.out h0) hdn hu hd hsn);have FN:Hid (Calls prog 108 #[.pointer (some ⟨gx,0,none⟩),.agg (Value.int .i64 3::sV).toArray] wc (Ee gx gl (.slice A1 nl c1) x0 false 3 tq.zero wc)):=J (Bu gx gl _ x0 _ _ _ none 3 sV tq.zero _ (asv.out.G H6) (sA.zero _));have TW:=J (fun e w' hx=>TOR.out wc e w' H6 hx);have LT6:=J (asB.out.G H6);clear TOR LQ5 BU D9 asv asB;by_cases he:er=0
 case neg=>have he':(er !=0)=true:=iu;have HR2:Hid (R=({x0 with done:=true,vd:=3,xZ:=tq.zero},L,[])):=J (by rw[HRR.out,if_pos he]);have RZ:=J (fun V=>Rr 3 V);obtain⟨ahX,hZ⟩:=aq (Value.int .i64 3::sV);rw[hZ.out]at RZ FN;clear he BG HST HRR;go_wp2_with(refine rF (.build 171 #[(0,.const (.int .i64 3))]) I ?_;go_must(refine sy I 171 _ I #[(0,.int .i64 3)] cY (RZ.out _) ?_));refine FN.out.mono ?_;intro e9 w9 hf;obtain⟨he,hx⟩:=hf.x (L:=L) (D:=none) LT6.out gne;rw[he];rw[<-HR2.out]at hx;obtain⟨v,hv,hx⟩:=TW.out _ _ hx;injection hv with hv;subst hv;have HX9:=J hx;clear hx he hf FN;go_wp2_with fail;go_ret2;exact HX9.out
 subst he;have HR2:Hid (R=Bp x0 L):=J (by rw[HRR.out,if_neg K]);have BGG:=J (BG.out I);clear BG FN HST HRR;go_wp2_with fail;refine BGG.out.mono ?_;intro e9 w9 hx;rw[<-HR2.out]at hx;obtain⟨v,rfl,hy⟩:=TW.out _ _ hx;have HX9:=J hy;clear hx hy BGG;go_wp2_with fail;go_ret2;exact HX9.out
def aa7(w:World)(A:Option Addr)(ds:List Int):Prop:=0<ds.length->∃b off,A=some ⟨b,off,none⟩/\b<w.heap.size/\w.rangeAt b off (Bi ds)
theorem Dk{D:Option Nat}{x:Xc}(h:tJ w g gl D x):Calls prog 77 #[.pointer (some ⟨g,0,none⟩)] w (uQ (.bool x.done) w):=by
 obtain⟨_,vn,hs,eb,qs,Z,_⟩:=h;exact aaV Z
theorem XW{D:Option Nat}{x:Xc}(h:tJ w g gl D x):Calls prog 71 #[.pointer (some ⟨g,0,none⟩)] w (uQ (.int .i64 x.r6) w):=by
 obtain⟨_,vn,hs,eb,qs,Z,_⟩:=h;exact aaW Z
theorem adf(W:World):(Instr.build 69 #[(0,.int .i64 1)]).run prog W= .ok (.agg (vA ⟨1,sg.zero,0,0,[]⟩).toArray) W:=by kernel_rfl
def JT:Ev:=⟨1,sg.zero,0,0,[]⟩
end Go.Proofs.YtakkipnmpmobbaaGreat
