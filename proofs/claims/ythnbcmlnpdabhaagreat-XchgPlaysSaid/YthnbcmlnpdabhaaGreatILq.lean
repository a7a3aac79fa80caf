/-
  Layer 29 (xchg):New.
-/
import Derived.Test.YthnbcmlnpdabhaaGreatIHq
import Derived.Test.YthnbcmlnpdabhaaGreatIDq
import Derived.Test.YthnbcmlnpdabhaaGreatIMq
namespace Go.Proofs.YthnbcmlnpdabhaaGreat
open _root_.Go.Proofs.Tryz
set_option maxHeartbeats 8000000
open Go.RowKit
set_option maxRecDepth 100000
set_option linter.unusedVariables false
set_option linter.unusedSimpArgs false
variable {v:Value} {w:World} {g gl:Nat}
theorem acF(q:Qn)(id:Int)(e:Bool)(h:uE q.name=0):(Eo (vW q id e) false).1.length<=65535:=by
 have hn:=(xj h).2;have hp:(xC (Kt id) (1:Nat) (0:Nat) (0:Nat) ((vW q id e).ex.length:Nat)).length=12:=by simp[xC,uy]
 cases e with
 |false=>show((xC (Kt id) (1:Nat) (0:Nat) (0:Nat) (0:Nat))++yS q.name++uA 2 q.O++uA 2 q.N).length<=65535;simp only[List.length_append,uy];have X:(yS q.name).length=vB q.name+1:=lk;have hp':(xC (Kt id) (1:Nat) (0:Nat) (0:Nat) (0:Nat)).length=12:=hp;omega
 |true=>
  show(uF ((xC (Kt id) (1:Nat) (0:Nat) (0:Nat) (1:Nat))++yS q.name++uA 2 q.O++uA 2 q.N,none) PO).1.length<=65535;have hp':(xC (Kt id) (1:Nat) (0:Nat) (0:Nat) (1:Nat)).length=12:=hp;have X:(yS q.name).length=vB q.name+1:=lk;have h3:∀T k,yT T k PO=[]:=fun T k=>rfl
  unfold uF zp;rw[h3];unfold yU;have h4:(yS PO.name).length=1:=az;simp only[List.length_append,uy,List.length_nil,vh];omega
theorem QD{q:Qn}{id0:Int}{e0:Bool}(h:(vN (vW q id0 e0) false).2=0)(id:Int)(e:Bool)(U:0<=id)(X:id<=65535):(vN (vW q id e) false).2=0:=by
 have hq:qE q=0:=by
  unfold vN at h;split at h
  ·rename_i hc;exact absurd h hc
  ·
   rename_i hc;have hc:=Decidable.not_not.1 hc;unfold wH at hc;split at hc
   ·cases hc
   ·
    split at hc
    ·cases hc
    ·
     split at hc
     ·rename_i hf;exact absurd hc hf
     ·
      rename_i hf;have hf:=Decidable.not_not.1 hf;unfold vW at hf;simp only[List.map_cons,List.map_nil,yk]at hf;split at hf
      ·rename_i h;exact absurd hf h
      ·rename_i h;exact Decidable.not_not.1 h
 have hN:uE q.name=0:=by
  unfold qE at hq;split at hq
  ·rename_i h;exact absurd hq h
  ·rename_i h;exact Decidable.not_not.1 h
 have hc:wH (vW q id e)=0:=by
  have hh:(vW q id e).hd.ok=true:=by unfold vW Kt Hd.ok;simp[U,X,Hd.zero]
  have hqs:yk ((vW q id e).qs.map qE)=0:=by unfold vW;simp[yk,hq]
  have ho:uN PO=0:=az;have hrs:yk ((vW q id e).Cq.map uN)=0:=by unfold vW vU.Cq;cases e<;>simp[yk,ho]
  unfold wH;rw[if_neg (by rw[hh];decide),if_neg (by unfold vW;cases e<;>simp),if_neg (by rw[hqs];decide),hrs]
 have hl:=acF q id e hN;unfold vN;rw[if_neg (by rw[hc];decide),if_neg I]
theorem acG(v1 v2 v3 vn:Value)(r:Rs)(q:Qn)(A:Option Addr)(n c gl:Nat)(W:World):(Instr.build 177 #[(0,.agg (Fa v1 v2 v3 r).toArray),(1,.agg (qC vn q).toArray),(2,.slice A n c),(3,.pointer (some ⟨gl,0,none⟩))]).run prog W= .ok (.agg (z5 (Fa v1 v2 v3 r) vn q (.slice A n c) gl 0 .nilFunc EP false none 0 0 false false 0 uX).toArray) W:=by kernel_rfl
def aa8(gl:Nat)(r:XR)(w:World)(e:Ending)(w':World):Prop:=∃g v D,e= .returned (.tuple #[.pointer (some ⟨g,0,none⟩),v])/\vJ w.heap.size w' v r.2.2/\yh w' g gl D r.1/\yn w' gl r.2.1/\Fr (fun i=>i=gl) w w'/\w.heap.size<=g/\∀i,D=some i->w.heap.size<=i
theorem Yu{w0:World}{l:List vG}(h:MG w0 0 v l):∀a∈l,a.ip.length=16:=by
 obtain⟨uo,_,h⟩:=h;have key:∀{uo:List (List Value)} {l:List vG},Ci Ym uo l->∀a∈l,a.ip.length=16:=by
  intro uo l;induction l generalizing uo with
  |nil=>intro _ a ha;cases ha
  |cons x l ih=>
   intro h a ha;match uo,h with
   |_::_,h=>
    rcases List.mem_cons.1 ha with rfl|ha
    ·obtain⟨_,_,h⟩:=h.1;exact h
    ·exact ih h.2 a ha
 exact key h
theorem MV(cs:List Value)(r:Rs)(q:Qn)(A:Option Addr)(c:Nat)(turn:Int)(gl:Nat)(L:Lt)(w:World)(h:Dh w cs r)(hN:xE w A c q.name)(hn:q.name.length<=100000)(hl:yn w gl L)(hu:L.us<=999999990)(hd:L.ds.length<=17592186044416):
  Calls prog 32 #[.agg cs.toArray,.agg (qC (.slice A q.name.length c) q).toArray,.int .i64 turn,.pointer (some ⟨gl,0,none⟩)] w (aa8 gl (BL (uJ r).cl (uJ r).vc (uJ r).ed q (vP r turn) L) w):=by
 obtain⟨R,hR⟩:=ao (BL (uJ r).cl (uJ r).vc (uJ r).ed q (vP r turn) L);rw[hR.out];have hcl:=h.len;have HX:Below w.heap.size w ((w.alloc (.cells cs.toArray 69)).alloc (.cells (qC (.slice A q.name.length c) q).toArray 28)):=gJ;have B0:=(F.new w 69 cs).alloc (.cells (qC (.slice A q.name.length c) q).toArray 28);have B1:=F.wE (w.alloc (.cells cs.toArray 69)) 28 (qC (.slice A q.name.length c) q) (w.heap.size+1) ap;obtain⟨w1,hw1⟩:=ao ((w.alloc (.cells cs.toArray 69)).alloc (.cells (qC (.slice A q.name.length c) q).toArray 28));rw[hw1.out]at HX B0 B1;have CL:=Y (DU A c q.name _ (hN.G HX) hn);have hll:Hid (∀l∈q.name,l.length<=140737488355328):=Y hN.2.2.2;have HRS:=Lib.hid h;have HLT:=Y hl;clear h hN hl;unfold qC at hw1;show Calls prog 32 #[.agg cs.toArray,.agg #[.slice A q.name.length c,.int .i64 q.O,.int .i64 q.N],.int .i64 turn,.pointer (some ⟨gl,0,none⟩)] w (aa8 gl R w);generalize hnn:q.name.length=nl at*;have HNN:=Y hnn;clear hnn;go_enter func32,ntmps32;go_wp2_with fail;rw[hw1.out];refine CL.out.mono ?_;rintro _ w1b ⟨A1,c1,hv,alF,b1⟩;rw[HNN.out]at hv;subst hv;have C0:=B0.G b1 B0.lt;have C1:=B1.G b1 B1.lt;have H1:=um HX HX.size b1;clear CL b1 B0 B1 HX;go_wp2_with(refine ur (.store 26 (.tmp 16) (.tmp 15)) J (af J (w.heap.size+1) 0 (.slice A1 nl c1) C1 (by simp[qC]) vO ?_));intro w2 D1 g2 sw;clear sw;have D0:=C0.grown g2 ap;have H2:=uq H1 g2 H1.size I;have akI:=Cj alF g2 C1 az;have hT2:wO w2 (.slice A1 q.name.length c1) q.name:=CP akI;rw[HNN.out]at hT2;have hN2:Uq w2 (.slice A1 nl c1) q.name:=⟨hT2,by rw[HNN.out];exact hn,hll.out⟩;rw[show(qC (.slice A nl c) q).set 0 (.slice A1 nl c1)=[.slice A1 nl c1,.int .i64 q.O,.int .i64 q.N]from J]at D1;have HN2:=Y hN2;have auC:=Y (HLT.out.G H2);obtain⟨e1,e2,e3,e4,e5,e6,hS,-⟩:=HRS.out;have RBC:Hid (∀V,(Instr.build 171 #[(0,.agg cs.toArray)]).run prog V= .ok (.agg (cs++[uz,uz,uz]).toArray) V):=Y (fun V=>by rw[hS];exact MD ..);clear hS;have SH:=Y (fun V (hV:al w V)=>Kc w cs r V HRS.out hV);have TR:=Y (fun V (hV:al w V)=>Yn w cs r turn V HRS.out hV);have LR:Hid (∀V,al w2 V->(Instr.loadAt 69 (.pointer (some ⟨w.heap.size,0,none⟩))).run prog V= .ok (.agg cs.toArray) V):=Y (fun V hV=>(D0.G hV D0.lt).wS 69 0 10 I _ underlying69 J AK _ (wP I));have LQ:Hid (∀V,al w2 V->(Instr.loadAt 28 (.pointer (some ⟨w.heap.size+1,0,none⟩))).run prog V= .ok (.agg #[.slice A1 nl c1,.int .i64 q.O,.int .i64 q.N]) V):=Y (fun V hV=>(D1.G hV D1.lt).wS 28 0 3 ap _ underlying28 J xu _ J);clear alF akI hT2 hN2 C0 C1 D0 D1 g2 H1 HRS hll;obtain⟨tl,htl⟩:=ao (vP r turn);rw[htl.out]at TR;obtain⟨nt,hnt⟩:=ao tl.length;go_upto_region 3 with fail;go_cut[10] (fun v10 wx=>∃gx XC v1 v2 v3 At ct,v10= .pointer (some ⟨gx,0,none⟩)/\F wx gx 177 XC/\XC=z5 (Fa v1 v2 v3 (uJ r)) (.slice A1 nl c1) q (.slice At nt ct) gl 0 .nilFunc EP false none 0 0 false false 0 uX/\True/\YN w wx (Fa v1 v2 v3 (uJ r)) (uJ r)/\MG wx 0 (.slice At nt ct) tl/\al w2 wx/\w2.heap.size<=gx)
 case first=>
  refine wp_region_held_drew (S:=fun V=>al w2 V) (by kernel_rfl) (Below.refl _ _).drew (fun K=>?_);refine uL K 6 [0,1,4,5,6,8] J (by kernel_rfl) (fun _ _ _ _ _ h=>h) J J ?_
  (refine ah _ J J (fun V hV=>(uP 69 (.tmp 4) ⟨w.heap.size,0,none⟩ J J (LR.out V hV))) ?_;simp only[E])
  (refine ah (.agg (cs++[uz,uz,uz]).toArray) J J (fun V hV=>(AZ 171 _ J #[(0,.agg cs.toArray)] (by kernel_rfl) (RBC.out V))) ?_;simp only[E])
  (refine ah _ J J (fun V hV=>(uP 28 (.tmp 5) ⟨w.heap.size+1,0,none⟩ J J (LQ.out V hV))) ?_;simp only[E])
  (refine ah _ J J (fun V hV=>(uP 69 (.tmp 4) ⟨w.heap.size,0,none⟩ J J (LR.out V hV))) ?_;simp only[E])
  repeat(refine aj _ ?_;simp only[E])
  simp only[vY];refine uO 2 (by kernel_rfl) ?_;refine wG 2 (some 19) 87 #[.agg (cs++[uz,uz,uz]).toArray] J J (by kernel_rfl) bp (SH.out _ (um H2 H2.size K)) ?_;rintro _ w3 ⟨cs1,u1,u2,u3,rfl,RO,b3⟩;have hl1:=RO.len;have hS3:=um K K.size b3;refine⟨_,J,hS3,?_⟩;clear K b3;have K:=hS3;clear hS3;simp only[E];refine uL K 1 [3] J (by kernel_rfl) (fun _ _ _ _ _ h=>h) J J ?_
  (refine ah (.agg cs1.toArray) J J (fun V hV=>(MI 171 (.tmp 19) 0 J J (WC cs1 hl1 u1 u2 u3 V))) ?_;simp only[E])
  simp only[vY];refine uO 7 (by kernel_rfl) ?_;refine wG 7 (some 24) 88 #[.agg cs.toArray,.int .i64 turn] J J (by kernel_rfl) bp (TR.out _ (um H2 H2.size K)) ?_;rintro _ WA ⟨vt,rfl,TO,b4⟩;obtain⟨At,ct,hvt⟩:=TO.form;rw[hnt.out]at hvt;subst hvt;replace RO:=RO.G b4;have hS4:=um K K.size b4;refine⟨_,J,hS4,?_⟩;clear K b4;have K:=hS4;clear hS4;simp only[E];obtain⟨v1,v2,v3,aiZ,RO'⟩:=RO;have RO:YN w WA (Fa v1 v2 v3 (uJ r)) (uJ r):=⟨v1,v2,v3,J,RO'⟩;have v1':True:=trivial;have RB:=Y (fun V=>acG v1 v2 v3 (.slice A1 nl c1) (uJ r) q At nt ct gl V);rw[<-aiZ]at RB;obtain⟨XC,HXC⟩:∃XC,Hid (XC=z5 (Fa v1 v2 v3 (uJ r)) (.slice A1 nl c1) q (.slice At nt ct) gl 0 .nilFunc EP false none 0 0 false false 0 uX):=gP;rw[aiZ,<-HXC.out,<-aiZ]at RB;clear RO' SH TR;refine uL K 1 [9] J (by kernel_rfl) (fun _ _ _ _ _ h=>h) J J ?_
  (refine ah (.agg XC.toArray) J J (fun V hV=>(AZ 177 _ J #[(0,.agg cs1.toArray),(1,.agg #[.slice A1 nl c1,.int .i64 q.O,.int .i64 q.N]),(2,.slice At nt ct),(3,.pointer (some ⟨gl,0,none⟩))] (by kernel_rfl) (RB.out V))) ?_;simp only[E])
  simp only[vY];have kn:Below WA.heap.size WA (WA.alloc (.cells XC.toArray 177)):=gF;have hSx:=um K K.size kn;have Bn:=F.new WA 177 XC;have hgz:w2.heap.size<=WA.heap.size:=me;have RO2:=RO.G kn;have TO2:=uY.G TO kn (fun _ _ h=>h);refine zz 10 (some 27) (by kernel_rfl) J J (by kernel_rfl) (v:=.pointer (some ⟨WA.heap.size,0,none⟩)) (w':=WA.alloc (.cells XC.toArray 177)) (by kernel_rfl) hSx ?_;simp only[E];clear K kn RO TO;have K:=hSx;clear hSx;generalize WA.alloc (.cells XC.toArray 177)=wz at*;generalize WA.heap.size=gz at*;refine uL K 1 [11] J (by kernel_rfl) (fun _ _ _ _ _ h=>h) J J ?_
  (refine aj (.pointer (some ⟨gz,0,none⟩)) ?_;simp only[E])
  simp only[vY];refine wpAnyH_done (by kernel_rfl) ?_ _;go_wp2_with fail;go_meet
  case rel=>exact⟨gz,XC,v1,v2,v3,At,ct,J,Bn,HXC.out,v1',RO2,TO2,K,hgz⟩
 obtain⟨gx,XC,v1,v2,v3,At,ct,rfl,BX,hXC,-,RO,TO,H3,hgx⟩:=hcut;obtain⟨w5,rfl⟩:∃w5,w5=wc:=gG;clear SH TR RBC LR;have HW:=um H2 H2.size H3;have LT5:=auC.out.G H3;have N5:=HN2.out.uH (uK.G H3);obtain⟨x0,hx0⟩:∃x0,x0=Dc (uJ r).cl (uJ r).vc (uJ r).ed q tl:=gG;have HRR:Hid (R=if(vN (vW q 0 (uJ r).ed) false).2≠0 then({x0 with done:=true,vd:=3,yr:=vU.zero},L,[])else Db x0 L):=Y fA;have HXB:xo w5 gx gl (.slice A1 nl c1) x0 .nilFunc false EP none:=⟨⟨Fa v1 v2 v3 (uJ r),.slice At nt ct,uX,by rw[hx0];rw[hXC]at BX;exact BX,J,by rw[hx0];rfl,by rw[hx0];rfl,by rw[hx0];rfl,by rw[hx0];exact TO,by rw[hx0];exact vf.zero _⟩,by rw[hx0];exact N5,AH⟩;have HST:Hid ((vN (vW q 0 (uJ r).ed) false).2=0->x0.st):=Y (fun he=>by
  have ht:=Fy r turn;rw[htl.out]at ht;rw[hx0];exact⟨Yu TO,(Qo r).1,(Qo r).2,gE,fun id e U X=>QD he id e U X⟩)
 have hdn:x0.done=false:=oi;have hsn:x0.uV<=1000000:=nS;have BXX:=BX;have d9:∀V,al w5 V->(Instr.loadAt 4 (.pointer (some ⟨gx,9,none⟩))).run prog V= .ok (.bool (uJ r).ed) V:=fun V hV=>uB underlying4 J ((BXX.G hV BXX.lt).M 9 (by rw[hXC,IW J AH 9 I];rfl))
 have D9:=Y d9;have LQ5:Hid (∀V,al w5 V->(Instr.loadAt 28 (.pointer (some ⟨w.heap.size+1,0,none⟩))).run prog V= .ok (.agg #[.slice A1 nl c1,.int .i64 q.O,.int .i64 q.N]) V):=Y (fun V hV=>LQ.out V (um H3 H3.size hV));have BU:Hid (∀V,al w5 V->Calls prog 74 #[.agg #[.slice A1 nl c1,.int .i64 q.O,.int .i64 q.N],.int .i64 0,.bool (uJ r).ed] V (uI (.tuple #[.string (bs (vN (vW q 0 (uJ r).ed) false).1),.int .i64 (vN (vW q 0 (uJ r).ed) false).2]) V)):=Y (fun V hV=>by
  obtain⟨A',c',hv,hNR⟩:=N5.form;injection hv with hv1 hv2 hv3;subst hv1 hv3;have:=Jp A1 c1 q 0 (uJ r).ed V (hNR.G hV) (by rw[HNN.out];exact hn);rwa[HNN.out]at this)
 have hgw:w.heap.size<=gx:=Nat.le_trans H2.size hgx;have aqy:=Y HXB;have aqD:=Y LT5;have TOR:Hid (∀V e w',al w5 V->zy gx gl none R V e w'->∃v,e= .returned v/\aa8 gl R w (.returned (.tuple #[.pointer (some ⟨gx,0,none⟩),v])) w'):=Y (fun V e w' hV hx=>by
  have hWV:=um HW HW.size hV;obtain⟨v,D',rfl,U,X,h3,h4,h5⟩:=hx;refine⟨v,J,gx,v,D',J,U.mono hWV.size,X,h3,(Fr.G (S:=fun i=>i=gl) hWV).trans h4 (fun i hi h=>?_),hgw,fun i hi=>?_⟩
  ·
   rcases h with h|h|h
   ·omega
   ·exact h
   ·cases h
  ·
   rcases h5 i hi with h|h
   ·cases h
   ·
    exact Nat.le_trans hWV.size h)
 have gne:gx≠gl:=by obtain⟨Lc,hLc⟩:=yO LT5;exact yg BX hLc az
 clear LQ HN2 auC N5 LT5 HW H2 H3 TO RO hXC BX BXX d9 HXB hR htl;generalize(uJ r).ed=ed at*;generalize(vN (vW q 0 ed) false).1=oc at*;generalize(vN (vW q 0 ed) false).2=er at*;clear hx0;go_upto_region 4 with fail;go_cut[10,12] (fun v10 v12 wx=>v10= .pointer (some ⟨gx,0,none⟩)/\v12= .int .i64 er/\al w5 wx)
 case first=>
  refine wp_region_held_drew (S:=fun V=>al w5 V) (by kernel_rfl) (Below.refl _ _).drew (fun K=>?_);refine uL K 6 [0,1,2,3,4,5] J (by kernel_rfl) (fun _ _ _ _ _ h=>h) J J ?_
  (refine ah _ J J (fun V hV=>(uP 28 (.tmp 5) ⟨w.heap.size+1,0,none⟩ J J (LQ5.out V hV))) ?_;simp only[E])
  repeat(refine aj _ ?_;simp only[E])
  (refine ah _ J J (fun V hV=>(uP 4 (.tmp 33) ⟨gx,9,none⟩ J J (D9.out V hV))) ?_;simp only[E])
  simp only[vY];refine vx 6 (some 35) 74 #[.agg #[.slice A1 nl c1,.int .i64 q.O,.int .i64 q.N],.int .i64 0,.bool ed] (by kernel_rfl) J J (by kernel_rfl) bp (BU.out _ K) ?_;rintro _ w4 ⟨rfl,b4⟩;have K:=um K K.size b4;refine⟨_,J,K,?_⟩;simp only[E];refine uL K 5 [7,8,9,10,11] J (by kernel_rfl) (fun _ _ _ _ _ h=>h) J J ?_
  (refine aj (.tuple #[.string (bs oc),.int .i64 er]) ?_;simp only[E])
  (refine aj (.string (bs oc)) ?_;simp only[E])
  (refine aj (.int .i64 er) ?_;simp only[E])
  (refine aj (.string (bs oc)) ?_;simp only[E])
  (refine aj (.int .i64 er) ?_;simp only[E])
  simp only[vY];refine wpAnyH_done (by kernel_rfl) ?_ _;go_wp2_with fail;go_meet
  case rel=>exact⟨J,J,K⟩
 obtain⟨rfl,rfl,H6⟩:=hcut;have BG:Hid (er=0->Calls prog 90 #[.pointer (some ⟨gx,0,none⟩)] wc (zy gx gl none (Db x0 L) wc)):=Y (fun h0=>Pf gx gl _ x0 L _ _ _ none _ (aqy.out.G H6) (aqD.out.G H6) (HST.out h0) hdn hu hd hsn);have FN:Hid (Calls prog 89 #[.pointer (some ⟨gx,0,none⟩),.agg (Value.int .i64 3::uX).toArray] wc (Hx gx gl (.slice A1 nl c1) x0 false 3 vU.zero wc)):=Y (EE gx gl _ x0 _ _ _ none 3 uX vU.zero _ (aqy.out.G H6) (vf.zero _));have TW:=Y (fun e w' hx=>TOR.out wc e w' H6 hx);have LT6:=Y (aqD.out.G H6);clear TOR LQ5 BU D9 aqy aqD;by_cases he:er=0
 case neg=>have he':(er !=0)=true:=iE;have HR2:Hid (R=({x0 with done:=true,vd:=3,yr:=vU.zero},L,[])):=Y (by rw[HRR.out,if_pos he]);have RZ:=Y (fun V=>TL 3 V);obtain⟨ai9,hZ⟩:=ao (Value.int .i64 3::uX);rw[hZ.out]at RZ FN;clear he BG HST HRR;go_wp2_with(refine ur (.build 92 #[(0,.const (.int .i64 3))]) J ?_;go_must(refine wi J 92 _ J #[(0,.int .i64 3)] ee (RZ.out _) ?_));refine FN.out.mono ?_;intro e9 w9 hf;obtain⟨he,hx⟩:=hf.x (L:=L) (D:=none) LT6.out gne;rw[he];rw[<-HR2.out]at hx;obtain⟨v,hv,hx⟩:=TW.out _ _ hx;injection hv with hv;subst hv;have HX9:=Y hx;clear hx he hf FN;exact tK
 subst he;have HR2:Hid (R=Db x0 L):=Y (by rw[HRR.out,if_neg az]);have BGG:=Y (BG.out J);clear BG FN HST HRR;go_wp2_with fail;refine BGG.out.mono ?_;intro e9 w9 hx;rw[<-HR2.out]at hx;obtain⟨v,rfl,hy⟩:=TW.out _ _ hx;have HX9:=Y hy;clear hx hy BGG;exact tK
def WkB(w:World)(e:Ending)(w':World):Prop:=∃b:Bool,e= .returned (.bool b)/\al w w'
theorem Yv(cs:List Value)(r:Rs)(w:World)(h:Dh w cs r):Calls prog 86 #[.agg (cs++[uz,uz,uz]).toArray] w (WkB w):=by
 obtain⟨A1,c1,A2,c2,A3,c3,rfl,U,X,h3,l1,l2,l3⟩:=h;have HX:Below w.heap.size w (w.alloc (.cells (Fa (.slice A1 r.sv.length c1) (.slice A2 r.se.length c2) (.slice A3 r.so.length c3) r++[uz,uz,uz]).toArray 171)):=gF;have X1:=F.new w 171 (Fa (.slice A1 r.sv.length c1) (.slice A2 r.se.length c2) (.slice A3 r.so.length c3) r++[uz,uz,uz]);have d0:=X1.M 0 (u:=.slice A1 r.sv.length c1) J;have d1:=X1.M 1 (u:=.slice A2 r.se.length c2) J;have d2:=X1.M 2 (u:=.slice A3 r.so.length c3) J;have d10:=X1.M 10 (u:=.slice none 0 0) J;have d11:=X1.M 11 (u:=.slice none 0 0) J;have d12:=X1.M 12 (u:=.slice none 0 0) J;have H2:=Y X;clear U X h3 X1;generalize(Fa (.slice A1 r.sv.length c1) (.slice A2 r.se.length c2) (.slice A3 r.so.length c3) r++[uz,uz,uz])=L at*;generalize r.so.length=n3,r.sv.length=n1 at*;by_cases U:20<n1
 case pos=>have h1':(20:Int)<n1:=I;exact qR
 have h1':¬(20:Int)<n1:=I;by_cases X:20<r.se.length
 case pos=>have h2':(20:Int)<r.se.length:=I;exact qR
 have h2':¬(20:Int)<r.se.length:=I;by_cases h3:20<n3
 case pos=>have h3':(20:Int)<n3:=I;exact qR
 have h3':¬(20:Int)<n3:=I;generalize hse:r.se=se at*;clear hse;go_enter func86,ntmps86;go_wp2_with fail;go_loopw[3] (fun iv wr=>∃k:Nat,k<=se.length/\iv= .int .i64 k/\wr=w.alloc (.cells L.toArray 171)) (fun iv _=>se.length-(intOf iv).toNat)
 case atStart=>exact⟨0,Nat.zero_le _,J,J⟩
 obtain⟨k,z,rfl,rfl⟩:=hrel;by_cases aB:k<se.length
 case neg=>have h1:¬(k:Int)<se.length:=I;clear H2;go_wp2_with fail;refine wp_loop_rounds 1 ?_;rw[rounds_succ];go_wp2_with fail;refine wp_loop_rounds 1 ?_;rw[rounds_succ];exact rI
 have h1:(k:Int)<se.length:=I;obtain⟨b,off,hA,Z,hr⟩:=H2.out I;obtain⟨An,cn,ce,hnm⟩:=hr k aB;have ce':(w.alloc (.cells L.toArray 171)).cell? ⟨b,off+k,none⟩=some (.slice An se[k].length cn):=(HX.cell (p:=⟨b,off+k,none⟩) Z).trans ce;have FW:=Y (RJ An cn se[k] _ (hnm.G HX));subst hA;clear hr ce hnm;generalize se[k].length=nk at*;generalize decide (vB se[k]<=400)=bk at*;go_wp2_with fail;refine FW.out.mono ?_;rintro _ w1 ⟨rfl,rfl⟩;clear FW;cases bk with
 |false=>exact rI
 |true=>
  go_wp2_with fail;go_roundw
  case rel=>exact⟨k+1,I,gp,trivial⟩
  case measure=>simp[intOf];omega
def MW(w:World)(A:Option Addr)(ds:List Int):Prop:=0<ds.length->∃b off,A=some ⟨b,off,none⟩/\b<w.heap.size/\w.rangeAt b off (PV ds)
def EY(vs vn:Value)(cs:List Value)(q:Qn)(turn:Int):List Value:=cs++(qC vn q++[.int .i64 turn,vs])
theorem acH{cs:List Value}{r:Rs}(h:Dh w cs r)(W:World):(Instr.build 171 #[(0,.agg cs.toArray)]).run prog W= .ok (.agg (cs++[uz,uz,uz]).toArray) W:=by
 obtain⟨A1,c1,A2,c2,A3,c3,rfl,_⟩:=h;exact MD ..
theorem Kf(As:Option Addr)(cs:List Value)(r:Rs)(A:Option Addr)(c:Nat)(q:Qn)(turn:Int)(nd cd:Nat)(w:World)(h:Dh w cs r)(hN:xE w A c q.name):
  Calls prog 31 #[.agg (EY (.slice As nd cd) (.slice A q.name.length c) cs q turn).toArray] w (fun e w'=>∃b:Bool,e= .returned (.bool b)/\(b=true->vB q.name<=400/\nd<=200)/\al w w'):=by
 have hcl:=h.len;obtain⟨L,hL⟩:∃L,L=EY (.slice As nd cd) (.slice A q.name.length c) cs q turn:=gG;have hLl:L.length=15:=by rw[hL];simp[EY,qC,hcl]
 have L0:(L.drop 0).take 10=cs:=by rw[hL,List.drop_zero];exact List.take_left' hcl
 have L10:L[10]?=some (.slice A q.name.length c):=by rw[hL];unfold EY;rw[List.getElem?_append_right I,hcl];rfl
 have L14:L[14]?=some (.slice As nd cd):=by rw[hL];unfold EY;rw[List.getElem?_append_right I,hcl];rfl
 rw[<-hL];have HX:Below w.heap.size w (w.alloc (.cells L.toArray 72)):=gF;have afz:=F.new w 72 L;have RB:=Y (fun V=>acH h V);have FW:=Y (Yv cs r _ (h.G HX));have HNM:=Y hN;clear h hN hL;go_enter func31,ntmps31;go_wp2_with(first
  |(refine ur (.load 69 (.tmp 3)) rfl ?_;go_must(refine uu rfl _ _ rfl w.heap.size 0 rfl afz 10 I _ underlying69 rfl AK cs L0 ?_))
  |(refine ur (.build 171 #[(0,.tmp 4)]) rfl ?_;go_must(refine wi rfl 171 _ rfl #[(0,.agg cs.toArray)] ee (RB.out _) ?_)))
 refine FW.out.mono ?_;rintro _ w1 ⟨b,rfl,b1⟩;have X1:=afz.G b1 afz.lt;have H1:=um HX HX.size b1;have d10:=X1.M 10 L10;have d14:=X1.M 14 L14;have FN:=Y (RJ A c q.name _ (HNM.out.G H1));clear afz b1 FW RB HX X1;cases b with
 |false=>clear FN;exact tW
 |true=>
 obtain⟨bq,hbq⟩:=ao (decide (vB q.name<=400));rw[hbq.out]at FN;generalize q.name.length=nq at*;go_wp2_with fail;refine FN.out.mono ?_;rintro _ w2 ⟨rfl,rfl⟩;clear FN;cases bq with
 |false=>exact tW
 |true=>
  have hq:vB q.name<=400:=by simpa using hbq.out
  have HQ:=Y hq;clear hq hbq;by_cases hn:nd<=200
  case pos=>have hn':(nd:Int)<=200:=I;have HND:=Y hn;go_wp2_with fail;go_ret;exact⟨_,J,fun _=>⟨HQ.out,HND.out⟩,H1⟩
  case neg=>have hn':¬(nd:Int)<=200:=I;go_wp2_with fail;go_ret;exact⟨_,J,fun h=>absurd (of_decide_eq_true h) I,H1⟩
theorem Gw{D:Option Nat}{x:Xc}(h:yh w g gl D x):Calls prog 38 #[.pointer (some ⟨g,0,none⟩)] w (xX (.bool x.done) w):=by
 obtain⟨_,vn,hs,eb,qs,Z,_⟩:=h;exact aaY Z
theorem GB{D:Option Nat}{x:Xc}(h:yh w g gl D x):Calls prog 39 #[.pointer (some ⟨g,0,none⟩)] w (xX (.int .i64 x.uV) w):=by
 obtain⟨_,vn,hs,eb,qs,Z,_⟩:=h;exact aaZ Z
theorem acI(v:Int)(d1 d2 d3 d4 d5 d6 d7 d8 d9 d10 d11 d12 d13 d14:Value)(W:World):(Instr.field 92 (.agg [.int .i64 v,d1,d2,d3,d4,d5,d6,d7,d8,d9,d10,d11,d12,d13,d14].toArray) 0).run prog W= .ok (.int .i64 v) W:=by kernel_rfl
theorem aa9(v:Int)(ds:List Value)(h:ds.length=14)(W:World):(Instr.field 92 (.agg (.int .i64 v::ds).toArray) 0).run prog W= .ok (.int .i64 v) W:=by
 match ds,h with
 |[d1,d2,d3,d4,d5,d6,d7,d8,d9,d10,d11,d12,d13,d14],_=>exact acI ..
theorem WN(W:World):(Instr.build 42 #[(0,.int .i64 1)]).run prog W= .ok (.agg (yj ⟨1,vG.zero,0,0,[]⟩).toArray) W:=by kernel_rfl
def Jy:Ev:=⟨1,vG.zero,0,0,[]⟩
def YO:Rs:=⟨[],[],[],0,1,1,false,false,false,false⟩
def q29:Qn:=⟨[[97]],1,1⟩
def QF:XR:=BL (uJ YO).cl (uJ YO).vc (uJ YO).ed q29 (vP YO 0) ⟨[],0⟩
theorem acJ:QF.2.2=[⟨1,yb 127 0 0 1,1024,(vN (vW q29 1 false) false).1⟩]:=by kernel_rfl
theorem aeq:QF.1.done=false:=by kernel_rfl
theorem aer:QF.1.d.uR.length+0<=8796093022208/\QF.2.1.us<=999999990/\QF.2.1.ds.length<=17592186044416/\QF.1.uV<=1000000:=by
 have U:QF.1.d.uR=[]:=by kernel_rfl
 have X:QF.2.1.us=2:=by kernel_rfl
 have h3:QF.2.1.ds=[]:=by kernel_rfl
 have h4:QF.1.uV=1:=by kernel_rfl
 rw[U,X,h3,h4];exact⟨az,az,az,az⟩
theorem acK:(xI QF.1 QF.2.1 Jy).1.done=true/\(xI QF.1 QF.2.1 Jy).1.vd=4/\(xI QF.1 QF.2.1 Jy).1.uV=1:=⟨by kernel_rfl,by kernel_rfl,by kernel_rfl⟩
theorem aes(w:World):Dh w (Fa uz uz uz YO) YO:=⟨none,0,none,0,none,0,J,fun h=>absurd h az,fun h=>absurd h az,fun h=>absurd h az,az,az,az⟩
theorem aet(w:World)(gn:Nat)(hn:F w gn 9 [.string ⟨#[97]⟩]):xE w (some ⟨gn,0,none⟩) 1 q29.name:=by
 refine⟨fun _=>⟨gn,0,J,hn.lt,fun j hj=>?_⟩,by show(1:Nat)<=1;decide,by show(1:Nat)<=17592186044416;decide,by
  intro l hl;simp[q29]at hl;subst hl;simp⟩
 obtain rfl:j=0:=by have X:j<([[97]]:List (List UInt8)).length:=hj;have:([[97]]:List (List UInt8)).length=1:=rfl;omega
 exact hn.M 0 J
theorem vJ.afQ{lo:Nat}{o:Ou}(h:vJ lo w v [o]):∃b off c,v= .slice (some ⟨b,off,none⟩) 1 c/\w.cell? ⟨b,off,none⟩=some (.int .i64 o.kind)/\w.cell? ⟨b,off+19,none⟩=some (.int .i64 o.port):=by
 obtain⟨A,c,rfl,hR,_⟩:=h.form;obtain⟨b,off,rfl,Z,hr⟩:=hR.2 ap;have h0:=hr 0 ap;have h2:o.to_.ip.length=16:=hR.1 o ap;have e19:(Gs o)[19]?=some (.int .i64 o.port):=Vi h2 0;refine⟨b,off,c,J,?_,?_⟩
 ·have:=h0 0 (.int .i64 o.kind) J;simpa using this
 ·have:=h0 19 _ e19;simpa using this
theorem Ds(w:World):Calls prog 30 #[] w (uI (.bool true) w):=by
 have b0:Below w.heap.size w (w.alloc (.cells #[.string ⟨#[97]⟩] 9)):=gF;have N0:=F.new w 9 [.string ⟨#[97]⟩];have EB:=Y (fun V=>WN V);have ez:(yj ⟨1,vG.zero,0,0,[]⟩:List Value)=yj Jy:=rfl;rw[ez]at EB;go_enter func30,ntmps30;go_wp2_with fail;refine(Mk none 0 [] _ (fun h=>absurd h az) az).mono ?_;rintro _ w1 ⟨gl,rfl,hL,b1,hgl⟩;have N1:=N0.G b1 N0.lt;have H1:=um b0 b0.size b1;have XN:=Y (MV (Fa uz uz uz YO) YO q29 (some ⟨w.heap.size,0,none⟩) 1 0 gl ⟨[],0⟩ w1 (aes w1) (aet w1 _ N1) az hL az az);have atp:Hid (BL (uJ YO).cl (uJ YO).vc (uJ YO).ed q29 (vP YO 0) ⟨[],0⟩=QF):=nL;rw[atp.out]at XN;clear b0 N0 b1 N1 hL;go_wp2_with fail;refine XN.out.mono ?_;rintro _ w2 ⟨g,v,D,rfl,hO,hX,hl,hf,hg,hD⟩;rw[acJ]at hO;obtain⟨b,off,c,rfl,c0,c19⟩:=hO.afQ;have DN:=Y (Gw hX);rw[aeq]at DN;obtain⟨U,X,h3,h4⟩:=aer;have HR:=Y (Jw g gl D QF.1 QF.2.1 Jy w2 hX hl J U X h3 h4);have H2:al w w2:=hf.zq H1 H1.size (fun i hi h=>by
  have:(w.alloc (.cells #[Value.string ⟨#[97]⟩] 9)).heap.size=w.heap.size+1:=ap;omega)
 clear hO hX hl hf XN atp U X h3 h4;go_wp2_with fail;refine DN.out.mono ?_;rintro _ w2' ⟨rfl,rfl⟩;clear DN c0 c19;generalize yj Jy=ev at*;go_wp2_with(refine ur (.build 42 #[(0,.const (.int .i64 1))]) J ?_;go_must(refine wi J 42 _ J #[(0,.int .i64 1)] ee (EB.out _) ?_));refine HR.out.mono ?_;rintro _ w3 ⟨v3,D3,rfl,hO3,hX3,hl3,hf3,hD3⟩;have DN:=Y (Gw hX3);have SN:=Y (GB hX3);have OC:=Y (Ke g gl D3 _ w3 hX3);obtain⟨y1,y2,y3⟩:=acK;rw[y1]at DN;rw[y3]at SN;rw[y2]at OC;have H3:al w w3:=hf3.zq H2 H2.size (fun i hi h=>by
  have hgw:w.heap.size<=w1.heap.size:=H1.size;rcases h with h|h|h
  ·omega
  ·have:(w.alloc (.cells #[Value.string ⟨#[97]⟩] 9)).heap.size=w.heap.size+1:=ap;omega
  ·
   have:=hD i h;omega)
 have SN':=Y (fun V (hV:al w3 V)=>GB (hX3.G hV));rw[y3]at SN';unfold aa6 at OC;clear HR hO3 hX3 hl3 hf3 hD3 hD y1 y2 y3;go_wp2_with fail;refine DN.out.mono ?_;rintro _ w3' ⟨rfl,rfl⟩;clear DN;go_wp2_with fail;refine OC.out.mono ?_;rintro _ w4 ⟨ds,rfl,hM,b4⟩;have hdl:=hM.len;have S4:=Y (SN'.out _ b4);have H4:=um H3 H3.size b4;have FO:=Y (fun V=>aa9 4 ds hdl V);obtain⟨aeI,hO⟩:=ao (Value.int .i64 4::ds);rw[hO.out]at FO⊢;clear OC SN SN' hM b4;go_wp2_with(refine ur (.field 92 (.tmp 43) 0) J ?_;go_must(refine EG (v:=.int .i64 4) bp (MI 92 (.tmp 43) 0 J J (FO.out _)) ?_));refine S4.out.mono ?_;rintro _ w4' ⟨rfl,rfl⟩;go_wp2_with fail;go_ret;exact uI.mk J H4
end Go.Proofs.YthnbcmlnpdabhaaGreat
