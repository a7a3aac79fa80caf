/-
  Layer 29 (xchg):New.
-/
import Derived.Test.YthnbcmlnpdabhaaGreatIHz
import Derived.Test.YthnbcmlnpdabhaaGreatIDz
import Derived.Test.YthnbcmlnpdabhaaGreatIMz
namespace Go.Proofs.YthnbcmlnpdabhaaGreat
open _root_.Go.Proofs.Tryz
set_option maxHeartbeats 8000000
open Go.RowKit
set_option maxRecDepth 100000
set_option linter.unusedVariables false
set_option linter.unusedSimpArgs false
variable {v:Value} {w:World} {g gl:Nat}
theorem abP(q:Qn)(id:Int)(e:Bool)(h:tY q.name=0):(DJ (vw q id e) false).1.length<=65535:=by
 have hn:=(wK h).2;have hp:(wW (JO id) (1:Nat) (0:Nat) (0:Nat) ((vw q id e).ex.length:Nat)).length=12:=by simp[wW,tR]
 cases e with
 |false=>show((wW (JO id) (1:Nat) (0:Nat) (0:Nat) (0:Nat))++yw q.name++tT 2 q.E++tT 2 q.N).length<=65535;simp only[List.length_append,tR];have X:(yw q.name).length=uQ q.name+1:=kL;have hp':(wW (JO id) (1:Nat) (0:Nat) (0:Nat) (0:Nat)).length=12:=hp;omega
 |true=>
  show(tZ ((wW (JO id) (1:Nat) (0:Nat) (0:Nat) (1:Nat))++yw q.name++tT 2 q.E++tT 2 q.N,none) Pd).1.length<=65535;have hp':(wW (JO id) (1:Nat) (0:Nat) (0:Nat) (1:Nat)).length=12:=hp;have X:(yw q.name).length=uQ q.name+1:=kL;have h3:∀T k,yx T k Pd=[]:=fun T k=>rfl
  unfold tZ yR;rw[h3];unfold yz;have h4:(yw Pd.name).length=1:=ax;simp only[List.length_append,tR,List.length_nil,uE];omega
theorem PU{q:Qn}{id0:Int}{e0:Bool}(h:(vg (vw q id0 e0) false).2=0)(id:Int)(e:Bool)(U:0<=id)(X:id<=65535):(vg (vw q id e) false).2=0:=by
 have hq:qE q=0:=by
  unfold vg at h;split at h
  ·rename_i hc;exact absurd h hc
  ·
   rename_i hc;have hc:=Decidable.not_not.1 hc;unfold vU at hc;split at hc
   ·cases hc
   ·
    split at hc
    ·cases hc
    ·
     split at hc
     ·rename_i hf;exact absurd hc hf
     ·
      rename_i hf;have hf:=Decidable.not_not.1 hf;unfold vw at hf;simp only[List.map_cons,List.map_nil,xK]at hf;split at hf
      ·rename_i h;exact absurd hf h
      ·rename_i h;exact Decidable.not_not.1 h
 have hN:tY q.name=0:=by
  unfold qE at hq;split at hq
  ·rename_i h;exact absurd hq h
  ·rename_i h;exact Decidable.not_not.1 h
 have hc:vU (vw q id e)=0:=by
  have hh:(vw q id e).hd.ok=true:=by unfold vw JO Hd.ok;simp[U,X,Hd.zero]
  have hqs:xK ((vw q id e).qs.map qE)=0:=by unfold vw;simp[xK,hq]
  have ho:uk Pd=0:=ax;have hrs:xK ((vw q id e).BD.map uk)=0:=by unfold vw vo.BD;cases e<;>simp[xK,ho]
  unfold vU;rw[if_neg (by rw[hh];decide),if_neg (by unfold vw;cases e<;>simp),if_neg (by rw[hqs];decide),hrs]
 have hl:=abP q id e hN;unfold vg;rw[if_neg (by rw[hc];decide),if_neg I]
theorem abQ(v1 v2 v3 vn:Value)(r:Rs)(q:Qn)(A:Option Addr)(n c gl:Nat)(W:World):(Instr.build 177 #[(0,.agg (Ej v1 v2 v3 r).toArray),(1,.agg (qC vn q).toArray),(2,.slice A n c),(3,.pointer (some ⟨gl,0,none⟩))]).run prog W= .ok (.agg (zC (Ej v1 v2 v3 r) vn q (.slice A n c) gl 0 .nilFunc Qe false none 0 0 false false 0 uw).toArray) W:=by kernel_rfl
def aan(gl:Nat)(r:XR)(w:World)(e:Ending)(w':World):Prop:=∃g v D,e= .returned (.tuple #[.pointer (some ⟨g,0,none⟩),v])/\vI w.heap.size w' v r.2.2/\ya w' g gl D r.1/\xT w' gl r.2.1/\Fr (fun i=>i=gl) w w'/\w.heap.size<=g/\∀i,D=some i->w.heap.size<=i
theorem Xw{w0:World}{l:List uV}(h:LX w0 0 v l):∀a∈l,a.ip.length=16:=by
 obtain⟨css,_,h⟩:=h;have key:∀{css:List (List Value)} {l:List uV},Bh Xm css l->∀a∈l,a.ip.length=16:=by
  intro css l;induction l generalizing css with
  |nil=>intro _ a ha;cases ha
  |cons x l ih=>
   intro h a ha;match css,h with
   |_::_,h=>
    rcases List.mem_cons.1 ha with rfl|ha
    ·obtain⟨_,_,h⟩:=h.1;exact h
    ·exact ih h.2 a ha
 exact key h
theorem SC(cs:List Value)(r:Rs)(q:Qn)(A:Option Addr)(c:Nat)(turn:Int)(gl:Nat)(L:Lt)(w:World)(h:CU w cs r)(hN:xj w A c q.name)(hn:q.name.length<=100000)(hl:xT w gl L)(hu:L.us<=999999990)(hd:L.ds.length<=17592186044416):
  Calls prog 32 #[.agg cs.toArray,.agg (qC (.slice A q.name.length c) q).toArray,.int .i64 turn,.pointer (some ⟨gl,0,none⟩)] w (aan gl (AU (ui r).hS (ui r).vc (ui r).ed q (vj r turn) L) w):=by
 obtain⟨R,hR⟩:=ao (AU (ui r).hS (ui r).vc (ui r).ed q (vj r turn) L);rw[hR.out];have hcl:=h.len;have HX:Below w.heap.size w ((w.alloc (.cells cs.toArray 69)).alloc (.cells (qC (.slice A q.name.length c) q).toArray 28)):=gA;have B0:=(Z.new w 69 cs).alloc (.cells (qC (.slice A q.name.length c) q).toArray 28);have B1:=Z.vP (w.alloc (.cells cs.toArray 69)) 28 (qC (.slice A q.name.length c) q) (w.heap.size+1) ap;obtain⟨w1,hw1⟩:=ao ((w.alloc (.cells cs.toArray 69)).alloc (.cells (qC (.slice A q.name.length c) q).toArray 28));rw[hw1.out]at HX B0 B1;have CL:=Y (Dj A c q.name _ (hN.G HX) hn);have hll:Hid (∀l∈q.name,l.length<=140737488355328):=Y hN.2.2.2;have HRS:=Lib.hid h;have HLT:=Y hl;clear h hN hl;unfold qC at hw1;show Calls prog 32 #[.agg cs.toArray,.agg #[.slice A q.name.length c,.int .i64 q.E,.int .i64 q.N],.int .i64 turn,.pointer (some ⟨gl,0,none⟩)] w (aan gl R w);generalize hnn:q.name.length=nl at*;have HNN:=Y hnn;clear hnn;go_enter func32,ntmps32;go_wp2_with fail;rw[hw1.out];refine CL.out.mono ?_;rintro _ w1b ⟨A1,c1,hv,akJ,b1⟩;rw[HNN.out]at hv;subst hv;have C0:=B0.G b1 B0.lt;have C1:=B1.G b1 B1.lt;have H1:=tL HX HX.size b1;clear CL b1 B0 B1 HX;go_wp2_with(refine tO (.store 26 (.tmp 16) (.tmp 15)) J (af J (w.heap.size+1) 0 (.slice A1 nl c1) C1 (by simp[qC]) vh ?_));intro w2 D1 g2 sw;clear sw;have D0:=C0.grown g2 ap;have H2:=tN H1 g2 H1.size I;have ajS:=Bi akJ g2 C1 ax;have hT2:wh w2 (.slice A1 q.name.length c1) q.name:=Cg ajS;rw[HNN.out]at hT2;have hN2:Tc w2 (.slice A1 nl c1) q.name:=⟨hT2,by rw[HNN.out];exact hn,hll.out⟩;rw[show(qC (.slice A nl c) q).set 0 (.slice A1 nl c1)=[.slice A1 nl c1,.int .i64 q.E,.int .i64 q.N]from J]at D1;have HN2:=Y hN2;have atH:=Y (HLT.out.G H2);obtain⟨e1,e2,e3,e4,e5,e6,hcs,-⟩:=HRS.out;have RBC:Hid (∀V,(Instr.build 171 #[(0,.agg cs.toArray)]).run prog V= .ok (.agg (cs++[tS,tS,tS]).toArray) V):=Y (fun V=>by rw[hcs];exact LJ ..);clear hcs;have SH:=Y (fun V (hV:al w V)=>Jz w cs r V HRS.out hV);have TR:=Y (fun V (hV:al w V)=>Xn w cs r turn V HRS.out hV);have LR:Hid (∀V,al w2 V->(Instr.loadAt 69 (.pointer (some ⟨w.heap.size,0,none⟩))).run prog V= .ok (.agg cs.toArray) V):=Y (fun V hV=>(D0.G hV D0.lt).wk 69 0 10 I _ underlying69 J zX _ (wg I));have LQ:Hid (∀V,al w2 V->(Instr.loadAt 28 (.pointer (some ⟨w.heap.size+1,0,none⟩))).run prog V= .ok (.agg #[.slice A1 nl c1,.int .i64 q.E,.int .i64 q.N]) V):=Y (fun V hV=>(D1.G hV D1.lt).wk 28 0 3 ap _ underlying28 J xh _ J);clear akJ ajS hT2 hN2 C0 C1 D0 D1 g2 H1 HRS hll;obtain⟨tl,htl⟩:=ao (vj r turn);rw[htl.out]at TR;obtain⟨nt,hnt⟩:=ao tl.length;go_upto_region 3 with fail;go_cut[10] (fun v10 wx=>∃gx XC v1 v2 v3 At ct,v10= .pointer (some ⟨gx,0,none⟩)/\Z wx gx 177 XC/\XC=zC (Ej v1 v2 v3 (ui r)) (.slice A1 nl c1) q (.slice At nt ct) gl 0 .nilFunc Qe false none 0 0 false false 0 uw/\True/\XU w wx (Ej v1 v2 v3 (ui r)) (ui r)/\LX wx 0 (.slice At nt ct) tl/\al w2 wx/\w2.heap.size<=gx)
 case first=>
  refine wp_region_held_drew (S:=fun V=>al w2 V) (by kernel_rfl) (Below.refl _ _).drew (fun M=>?_);refine uh M 6 [0,1,4,5,6,8] J (by kernel_rfl) (fun _ _ _ _ _ h=>h) J J ?_
  (refine ah _ J J (fun V hV=>(ul 69 (.tmp 4) ⟨w.heap.size,0,none⟩ J J (LR.out V hV))) ?_;simp only[z])
  (refine ah (.agg (cs++[tS,tS,tS]).toArray) J J (fun V hV=>(z6 171 _ J #[(0,.agg cs.toArray)] (by kernel_rfl) (RBC.out V))) ?_;simp only[z])
  (refine ah _ J J (fun V hV=>(ul 28 (.tmp 5) ⟨w.heap.size+1,0,none⟩ J J (LQ.out V hV))) ?_;simp only[z])
  (refine ah _ J J (fun V hV=>(ul 69 (.tmp 4) ⟨w.heap.size,0,none⟩ J J (LR.out V hV))) ?_;simp only[z])
  repeat(refine aj _ ?_;simp only[z])
  simp only[vx];refine um 2 (by kernel_rfl) ?_;refine vO 2 (some 19) 87 #[.agg (cs++[tS,tS,tS]).toArray] J J (by kernel_rfl) bm (SH.out _ (tL H2 H2.size M)) ?_;rintro _ w3 ⟨cs1,u1,u2,u3,rfl,RO,b3⟩;have hl1:=RO.len;have hS3:=tL M M.size b3;refine⟨_,J,hS3,?_⟩;clear M b3;have M:=hS3;clear hS3;simp only[z];refine uh M 1 [3] J (by kernel_rfl) (fun _ _ _ _ _ h=>h) J J ?_
  (refine ah (.agg cs1.toArray) J J (fun V hV=>(Si 171 (.tmp 19) 0 J J (VF cs1 hl1 u1 u2 u3 V))) ?_;simp only[z])
  simp only[vx];refine um 7 (by kernel_rfl) ?_;refine vO 7 (some 24) 88 #[.agg cs.toArray,.int .i64 turn] J J (by kernel_rfl) bm (TR.out _ (tL H2 H2.size M)) ?_;rintro _ WA ⟨vt,rfl,TO,b4⟩;obtain⟨At,ct,hvt⟩:=TO.form;rw[hnt.out]at hvt;subst hvt;replace RO:=RO.G b4;have hS4:=tL M M.size b4;refine⟨_,J,hS4,?_⟩;clear M b4;have M:=hS4;clear hS4;simp only[z];obtain⟨v1,v2,v3,aj3,RO'⟩:=RO;have RO:XU w WA (Ej v1 v2 v3 (ui r)) (ui r):=⟨v1,v2,v3,J,RO'⟩;have v1':True:=trivial;have RB:=Y (fun V=>abQ v1 v2 v3 (.slice A1 nl c1) (ui r) q At nt ct gl V);rw[<-aj3]at RB;obtain⟨XC,HXC⟩:∃XC,Hid (XC=zC (Ej v1 v2 v3 (ui r)) (.slice A1 nl c1) q (.slice At nt ct) gl 0 .nilFunc Qe false none 0 0 false false 0 uw):=gG;rw[aj3,<-HXC.out,<-aj3]at RB;clear RO' SH TR;refine uh M 1 [9] J (by kernel_rfl) (fun _ _ _ _ _ h=>h) J J ?_
  (refine ah (.agg XC.toArray) J J (fun V hV=>(z6 177 _ J #[(0,.agg cs1.toArray),(1,.agg #[.slice A1 nl c1,.int .i64 q.E,.int .i64 q.N]),(2,.slice At nt ct),(3,.pointer (some ⟨gl,0,none⟩))] (by kernel_rfl) (RB.out V))) ?_;simp only[z])
  simp only[vx];have kn:Below WA.heap.size WA (WA.alloc (.cells XC.toArray 177)):=gj;have hSx:=tL M M.size kn;have Bn:=Z.new WA 177 XC;have hgz:w2.heap.size<=WA.heap.size:=lm;have RO2:=RO.G kn;have TO2:=uy.G TO kn (fun _ _ h=>h);refine zF 10 (some 27) (by kernel_rfl) J J (by kernel_rfl) (v:=.pointer (some ⟨WA.heap.size,0,none⟩)) (w':=WA.alloc (.cells XC.toArray 177)) (by kernel_rfl) hSx ?_;simp only[z];clear M kn RO TO;have M:=hSx;clear hSx;generalize WA.alloc (.cells XC.toArray 177)=wz at*;generalize WA.heap.size=gz at*;refine uh M 1 [11] J (by kernel_rfl) (fun _ _ _ _ _ h=>h) J J ?_
  (refine aj (.pointer (some ⟨gz,0,none⟩)) ?_;simp only[z])
  simp only[vx];refine wpAnyH_done (by kernel_rfl) ?_ _;go_wp2_with fail;go_meet
  case rel=>exact⟨gz,XC,v1,v2,v3,At,ct,J,Bn,HXC.out,v1',RO2,TO2,M,hgz⟩
 obtain⟨gx,XC,v1,v2,v3,At,ct,rfl,BX,hXC,-,RO,TO,H3,hgx⟩:=hcut;obtain⟨w5,rfl⟩:∃w5,w5=wc:=gp;clear SH TR RBC LR;have HW:=tL H2 H2.size H3;have LT5:=atH.out.G H3;have N5:=HN2.out.ue (ug.G H3);obtain⟨x0,hx0⟩:∃x0,x0=Cq (ui r).hS (ui r).vc (ui r).ed q tl:=gp;have HRR:Hid (R=if(vg (vw q 0 (ui r).ed) false).2≠0 then({x0 with done:=true,vd:=3,xP:=vo.zero},L,[])else Cp x0 L):=Y fx;have HXB:wM w5 gx gl (.slice A1 nl c1) x0 .nilFunc false Qe none:=⟨⟨Ej v1 v2 v3 (ui r),.slice At nt ct,uw,by rw[hx0];rw[hXC]at BX;exact BX,J,by rw[hx0];rfl,by rw[hx0];rfl,by rw[hx0];rfl,by rw[hx0];exact TO,by rw[hx0];exact uA.zero _⟩,by rw[hx0];exact N5,Cw⟩;have HST:Hid ((vg (vw q 0 (ui r).ed) false).2=0->x0.st):=Y (fun he=>by
  have ht:=EM r turn;rw[htl.out]at ht;rw[hx0];exact⟨Xw TO,(PF r).1,(PF r).2,gi,fun id e U X=>PU he id e U X⟩)
 have hdn:x0.done=false:=nJ;have hsn:x0.uz<=1000000:=nw;have BXX:=BX;have d9:∀V,al w5 V->(Instr.loadAt 4 (.pointer (some ⟨gx,9,none⟩))).run prog V= .ok (.bool (ui r).ed) V:=fun V hV=>tV underlying4 J ((BXX.G hV BXX.lt).K 9 (by rw[hXC,Im J Cw 9 I];rfl))
 have D9:=Y d9;have LQ5:Hid (∀V,al w5 V->(Instr.loadAt 28 (.pointer (some ⟨w.heap.size+1,0,none⟩))).run prog V= .ok (.agg #[.slice A1 nl c1,.int .i64 q.E,.int .i64 q.N]) V):=Y (fun V hV=>LQ.out V (tL H3 H3.size hV));have BU:Hid (∀V,al w5 V->Calls prog 74 #[.agg #[.slice A1 nl c1,.int .i64 q.E,.int .i64 q.N],.int .i64 0,.bool (ui r).ed] V (uf (.tuple #[.string (bs (vg (vw q 0 (ui r).ed) false).1),.int .i64 (vg (vw q 0 (ui r).ed) false).2]) V)):=Y (fun V hV=>by
  obtain⟨A',c',hv,hNR⟩:=N5.form;injection hv with hv1 hv2 hv3;subst hv1 hv3;have:=IM A1 c1 q 0 (ui r).ed V (hNR.G hV) (by rw[HNN.out];exact hn);rwa[HNN.out]at this)
 have hgw:w.heap.size<=gx:=Nat.le_trans H2.size hgx;have apH:=Y HXB;have apN:=Y LT5;have TOR:Hid (∀V e w',al w5 V->y9 gx gl none R V e w'->∃v,e= .returned v/\aan gl R w (.returned (.tuple #[.pointer (some ⟨gx,0,none⟩),v])) w'):=Y (fun V e w' hV hx=>by
  have hWV:=tL HW HW.size hV;obtain⟨v,D',rfl,U,X,h3,h4,h5⟩:=hx;refine⟨v,J,gx,v,D',J,U.mono hWV.size,X,h3,(Fr.G (S:=fun i=>i=gl) hWV).trans h4 (fun i hi h=>?_),hgw,fun i hi=>?_⟩
  ·
   rcases h with h|h|h
   ·omega
   ·exact h
   ·cases h
  ·
   rcases h5 i hi with h|h
   ·cases h
   ·
    exact Nat.le_trans hWV.size h)
 have gne:gx≠gl:=by obtain⟨Lc,hLc⟩:=xU LT5;exact wJ BX hLc ax
 clear LQ HN2 atH N5 LT5 HW H2 H3 TO RO hXC BX BXX d9 HXB hR htl;generalize(ui r).ed=ed at*;generalize(vg (vw q 0 ed) false).1=oc at*;generalize(vg (vw q 0 ed) false).2=er at*;clear hx0;go_upto_region 4 with fail;go_cut[10,12] (fun v10 v12 wx=>v10= .pointer (some ⟨gx,0,none⟩)/\v12= .int .i64 er/\al w5 wx)
 case first=>
  refine wp_region_held_drew (S:=fun V=>al w5 V) (by kernel_rfl) (Below.refl _ _).drew (fun M=>?_);refine uh M 6 [0,1,2,3,4,5] J (by kernel_rfl) (fun _ _ _ _ _ h=>h) J J ?_
  (refine ah _ J J (fun V hV=>(ul 28 (.tmp 5) ⟨w.heap.size+1,0,none⟩ J J (LQ5.out V hV))) ?_;simp only[z])
  repeat(refine aj _ ?_;simp only[z])
  (refine ah _ J J (fun V hV=>(ul 4 (.tmp 33) ⟨gx,9,none⟩ J J (D9.out V hV))) ?_;simp only[z])
  simp only[vx];refine uO 6 (some 35) 74 #[.agg #[.slice A1 nl c1,.int .i64 q.E,.int .i64 q.N],.int .i64 0,.bool ed] (by kernel_rfl) J J (by kernel_rfl) bm (BU.out _ M) ?_;rintro _ w4 ⟨rfl,b4⟩;have M:=tL M M.size b4;refine⟨_,J,M,?_⟩;simp only[z];refine uh M 5 [7,8,9,10,11] J (by kernel_rfl) (fun _ _ _ _ _ h=>h) J J ?_
  (refine aj (.tuple #[.string (bs oc),.int .i64 er]) ?_;simp only[z])
  (refine aj (.string (bs oc)) ?_;simp only[z])
  (refine aj (.int .i64 er) ?_;simp only[z])
  (refine aj (.string (bs oc)) ?_;simp only[z])
  (refine aj (.int .i64 er) ?_;simp only[z])
  simp only[vx];refine wpAnyH_done (by kernel_rfl) ?_ _;go_wp2_with fail;go_meet
  case rel=>exact⟨J,J,M⟩
 obtain⟨rfl,rfl,H6⟩:=hcut;have BG:Hid (er=0->Calls prog 90 #[.pointer (some ⟨gx,0,none⟩)] wc (y9 gx gl none (Cp x0 L) wc)):=Y (fun h0=>Om gx gl _ x0 L _ _ _ none _ (apH.out.G H6) (apN.out.G H6) (HST.out h0) hdn hu hd hsn);have FN:Hid (Calls prog 89 #[.pointer (some ⟨gx,0,none⟩),.agg (Value.int .i64 3::uw).toArray] wc (GP gx gl (.slice A1 nl c1) x0 false 3 vo.zero wc)):=Y (D7 gx gl _ x0 _ _ _ none 3 uw vo.zero _ (apH.out.G H6) (uA.zero _));have TW:=Y (fun e w' hx=>TOR.out wc e w' H6 hx);have LT6:=Y (apN.out.G H6);clear TOR LQ5 BU D9 apH apN;by_cases he:er=0
 case neg=>have he':(er !=0)=true:=iu;have HR2:Hid (R=({x0 with done:=true,vd:=3,xP:=vo.zero},L,[])):=Y (by rw[HRR.out,if_pos he]);have RZ:=Y (fun V=>Sx 3 V);obtain⟨al8,hZ⟩:=ao (Value.int .i64 3::uw);rw[hZ.out]at RZ FN;clear he BG HST HRR;go_wp2_with(refine tO (.build 92 #[(0,.const (.int .i64 3))]) J ?_;go_must(refine wl J 92 _ J #[(0,.int .i64 3)] ea (RZ.out _) ?_));refine FN.out.mono ?_;intro e9 w9 hf;obtain⟨he,hx⟩:=hf.x (L:=L) (D:=none) LT6.out gne;rw[he];rw[<-HR2.out]at hx;obtain⟨v,hv,hx⟩:=TW.out _ _ hx;injection hv with hv;subst hv;have HX9:=Y hx;clear hx he hf FN;exact td
 subst he;have HR2:Hid (R=Cp x0 L):=Y (by rw[HRR.out,if_neg ax]);have BGG:=Y (BG.out J);clear BG FN HST HRR;go_wp2_with fail;refine BGG.out.mono ?_;intro e9 w9 hx;rw[<-HR2.out]at hx;obtain⟨v,rfl,hy⟩:=TW.out _ _ hx;have HX9:=Y hy;clear hx hy BGG;exact td
def WkB(w:World)(e:Ending)(w':World):Prop:=∃b:Bool,e= .returned (.bool b)/\al w w'
theorem Xx(cs:List Value)(r:Rs)(w:World)(h:CU w cs r):Calls prog 86 #[.agg (cs++[tS,tS,tS]).toArray] w (WkB w):=by
 obtain⟨A1,c1,A2,c2,A3,c3,rfl,U,X,h3,l1,l2,l3⟩:=h;have HX:Below w.heap.size w (w.alloc (.cells (Ej (.slice A1 r.sv.length c1) (.slice A2 r.se.length c2) (.slice A3 r.so.length c3) r++[tS,tS,tS]).toArray 171)):=gj;have X1:=Z.new w 171 (Ej (.slice A1 r.sv.length c1) (.slice A2 r.se.length c2) (.slice A3 r.so.length c3) r++[tS,tS,tS]);have d0:=X1.K 0 (u:=.slice A1 r.sv.length c1) J;have d1:=X1.K 1 (u:=.slice A2 r.se.length c2) J;have d2:=X1.K 2 (u:=.slice A3 r.so.length c3) J;have d10:=X1.K 10 (u:=.slice none 0 0) J;have d11:=X1.K 11 (u:=.slice none 0 0) J;have d12:=X1.K 12 (u:=.slice none 0 0) J;have H2:=Y X;clear U X h3 X1;generalize(Ej (.slice A1 r.sv.length c1) (.slice A2 r.se.length c2) (.slice A3 r.so.length c3) r++[tS,tS,tS])=L at*;generalize r.so.length=n3,r.sv.length=n1 at*;by_cases U:20<n1
 case pos=>have h1':(20:Int)<n1:=I;exact qp
 have h1':¬(20:Int)<n1:=I;by_cases X:20<r.se.length
 case pos=>have h2':(20:Int)<r.se.length:=I;exact qp
 have h2':¬(20:Int)<r.se.length:=I;by_cases h3:20<n3
 case pos=>have h3':(20:Int)<n3:=I;exact qp
 have h3':¬(20:Int)<n3:=I;generalize hse:r.se=se at*;clear hse;go_enter func86,ntmps86;go_wp2_with fail;go_loopw[3] (fun iv wr=>∃k:Nat,k<=se.length/\iv= .int .i64 k/\wr=w.alloc (.cells L.toArray 171)) (fun iv _=>se.length-(intOf iv).toNat)
 case atStart=>exact⟨0,Nat.zero_le _,J,J⟩
 obtain⟨k,O,rfl,rfl⟩:=hrel;by_cases Hh:k<se.length
 case neg=>have tQ:¬(k:Int)<se.length:=I;clear H2;go_wp2_with fail;refine wp_loop_rounds 1 ?_;rw[rounds_succ];go_wp2_with fail;refine wp_loop_rounds 1 ?_;rw[rounds_succ];exact qU
 have tQ:(k:Int)<se.length:=I;obtain⟨b,off,hA,F,hr⟩:=H2.out I;obtain⟨An,cn,ce,hnm⟩:=hr k Hh;have ce':(w.alloc (.cells L.toArray 171)).cell? ⟨b,off+k,none⟩=some (.slice An se[k].length cn):=(HX.cell (p:=⟨b,off+k,none⟩) F).trans ce;have FW:=Y (Qt An cn se[k] _ (hnm.G HX));subst hA;clear hr ce hnm;generalize se[k].length=nk at*;generalize decide (uQ se[k]<=400)=bk at*;go_wp2_with fail;refine FW.out.mono ?_;rintro _ w1 ⟨rfl,rfl⟩;clear FW;cases bk with
 |false=>exact qU
 |true=>
  go_wp2_with fail;go_roundw
  case rel=>exact⟨k+1,I,fU,trivial⟩
  case measure=>simp[intOf];omega
def Oo(w:World)(A:Option Addr)(ds:List Int):Prop:=0<ds.length->∃b off,A=some ⟨b,off,none⟩/\b<w.heap.size/\w.rangeAt b off (Pj ds)
def GQ(vs vn:Value)(cs:List Value)(q:Qn)(turn:Int):List Value:=cs++(qC vn q++[.int .i64 turn,vs])
theorem abR{cs:List Value}{r:Rs}(h:CU w cs r)(W:World):(Instr.build 171 #[(0,.agg cs.toArray)]).run prog W= .ok (.agg (cs++[tS,tS,tS]).toArray) W:=by
 obtain⟨A1,c1,A2,c2,A3,c3,rfl,_⟩:=h;exact LJ ..
theorem SG(As:Option Addr)(cs:List Value)(r:Rs)(A:Option Addr)(c:Nat)(q:Qn)(turn:Int)(nd cd:Nat)(w:World)(h:CU w cs r)(hN:xj w A c q.name):
  Calls prog 31 #[.agg (GQ (.slice As nd cd) (.slice A q.name.length c) cs q turn).toArray] w (fun e w'=>∃b:Bool,e= .returned (.bool b)/\(b=true->uQ q.name<=400/\nd<=200)/\al w w'):=by
 have hcl:=h.len;obtain⟨L,hL⟩:∃L,L=GQ (.slice As nd cd) (.slice A q.name.length c) cs q turn:=gp;have hLl:L.length=15:=by rw[hL];simp[GQ,qC,hcl]
 have L0:(L.drop 0).take 10=cs:=by rw[hL,List.drop_zero];exact List.take_left' hcl
 have L10:L[10]?=some (.slice A q.name.length c):=by rw[hL];unfold GQ;rw[List.getElem?_append_right I,hcl];rfl
 have L14:L[14]?=some (.slice As nd cd):=by rw[hL];unfold GQ;rw[List.getElem?_append_right I,hcl];rfl
 rw[<-hL];have HX:Below w.heap.size w (w.alloc (.cells L.toArray 72)):=gj;have aeR:=Z.new w 72 L;have RB:=Y (fun V=>abR h V);have FW:=Y (Xx cs r _ (h.G HX));have HNM:=Y hN;clear h hN hL;go_enter func31,ntmps31;go_wp2_with(first
  |(refine tO (.load 69 (.tmp 3)) rfl ?_;go_must(refine tP rfl _ _ rfl w.heap.size 0 rfl aeR 10 I _ underlying69 rfl zX cs L0 ?_))
  |(refine tO (.build 171 #[(0,.tmp 4)]) rfl ?_;go_must(refine wl rfl 171 _ rfl #[(0,.agg cs.toArray)] ea (RB.out _) ?_)))
 refine FW.out.mono ?_;rintro _ w1 ⟨b,rfl,b1⟩;have X1:=aeR.G b1 aeR.lt;have H1:=tL HX HX.size b1;have d10:=X1.K 10 L10;have d14:=X1.K 14 L14;have FN:=Y (Qt A c q.name _ (HNM.out.G H1));clear aeR b1 FW RB HX X1;cases b with
 |false=>clear FN;exact tv
 |true=>
 obtain⟨bq,hbq⟩:=ao (decide (uQ q.name<=400));rw[hbq.out]at FN;generalize q.name.length=nq at*;go_wp2_with fail;refine FN.out.mono ?_;rintro _ w2 ⟨rfl,rfl⟩;clear FN;cases bq with
 |false=>exact tv
 |true=>
  have hq:uQ q.name<=400:=by simpa using hbq.out
  have HQ:=Y hq;clear hq hbq;by_cases hn:nd<=200
  case pos=>have hn':(nd:Int)<=200:=I;have HND:=Y hn;go_wp2_with fail;go_ret;exact⟨_,J,fun _=>⟨HQ.out,HND.out⟩,H1⟩
  case neg=>have hn':¬(nd:Int)<=200:=I;go_wp2_with fail;go_ret;exact⟨_,J,fun h=>absurd (of_decide_eq_true h) I,H1⟩
theorem Fx{D:Option Nat}{x:Xc}(h:ya w g gl D x):Calls prog 38 #[.pointer (some ⟨g,0,none⟩)] w (yi (.bool x.done) w):=by
 obtain⟨_,vn,hs,eb,qs,F,_⟩:=h;exact aac F
theorem Fy{D:Option Nat}{x:Xc}(h:ya w g gl D x):Calls prog 39 #[.pointer (some ⟨g,0,none⟩)] w (yi (.int .i64 x.uz) w):=by
 obtain⟨_,vn,hs,eb,qs,F,_⟩:=h;exact aad F
theorem abS(v:Int)(d1 d2 d3 d4 d5 d6 d7 d8 d9 d10 d11 d12 d13 d14:Value)(W:World):(Instr.field 92 (.agg [.int .i64 v,d1,d2,d3,d4,d5,d6,d7,d8,d9,d10,d11,d12,d13,d14].toArray) 0).run prog W= .ok (.int .i64 v) W:=by kernel_rfl
theorem ady(v:Int)(ds:List Value)(h:ds.length=14)(W:World):(Instr.field 92 (.agg (.int .i64 v::ds).toArray) 0).run prog W= .ok (.int .i64 v) W:=by
 match ds,h with
 |[d1,d2,d3,d4,d5,d6,d7,d8,d9,d10,d11,d12,d13,d14],_=>exact abS ..
theorem abT(W:World):(Instr.build 42 #[(0,.int .i64 1)]).run prog W= .ok (.agg (xA ⟨1,uV.zero,0,0,[]⟩).toArray) W:=by kernel_rfl
def I7:Ev:=⟨1,uV.zero,0,0,[]⟩
def XV:Rs:=⟨[],[],[],0,1,1,false,false,false,false⟩
def q29:Qn:=⟨[[97]],1,1⟩
def PV:XR:=AU (ui XV).hS (ui XV).vc (ui XV).ed q29 (vj XV 0) ⟨[],0⟩
theorem abU:PV.2.2=[⟨1,xD 127 0 0 1,1024,(vg (vw q29 1 false) false).1⟩]:=by kernel_rfl
theorem adz:PV.1.done=false:=by kernel_rfl
theorem adA:PV.1.d.aA.length+0<=8796093022208/\PV.2.1.us<=999999990/\PV.2.1.ds.length<=17592186044416/\PV.1.uz<=1000000:=by
 have U:PV.1.d.aA=[]:=by kernel_rfl
 have X:PV.2.1.us=2:=by kernel_rfl
 have h3:PV.2.1.ds=[]:=by kernel_rfl
 have h4:PV.1.uz=1:=by kernel_rfl
 rw[U,X,h3,h4];exact⟨ax,ax,ax,ax⟩
theorem abV:(wU PV.1 PV.2.1 I7).1.done=true/\(wU PV.1 PV.2.1 I7).1.vd=4/\(wU PV.1 PV.2.1 I7).1.uz=1:=⟨by kernel_rfl,by kernel_rfl,by kernel_rfl⟩
theorem adB(w:World):CU w (Ej tS tS tS XV) XV:=⟨none,0,none,0,none,0,J,fun h=>absurd h ax,fun h=>absurd h ax,fun h=>absurd h ax,ax,ax,ax⟩
theorem adC(w:World)(gn:Nat)(hn:Z w gn 9 [.string ⟨#[97]⟩]):xj w (some ⟨gn,0,none⟩) 1 q29.name:=by
 refine⟨fun _=>⟨gn,0,J,hn.lt,fun j hj=>?_⟩,by show(1:Nat)<=1;decide,by show(1:Nat)<=17592186044416;decide,by
  intro l hl;simp[q29]at hl;subst hl;simp⟩
 obtain rfl:j=0:=by have X:j<([[97]]:List (List UInt8)).length:=hj;have:([[97]]:List (List UInt8)).length=1:=rfl;omega
 exact hn.K 0 J
theorem vI.ae2{lo:Nat}{o:Ou}(h:vI lo w v [o]):∃b off c,v= .slice (some ⟨b,off,none⟩) 1 c/\w.cell? ⟨b,off,none⟩=some (.int .i64 o.kind)/\w.cell? ⟨b,off+19,none⟩=some (.int .i64 o.port):=by
 obtain⟨A,c,rfl,hR,_⟩:=h.form;obtain⟨b,off,rfl,F,hr⟩:=hR.2 ap;have h0:=hr 0 ap;have ty:o.to_.ip.length=16:=hR.1 o ap;have e19:(Ft o)[19]?=some (.int .i64 o.port):=Up ty 0;refine⟨b,off,c,J,?_,?_⟩
 ·have:=h0 0 (.int .i64 o.kind) J;simpa using this
 ·have:=h0 19 _ e19;simpa using this
theorem EV(w:World):Calls prog 30 #[] w (uf (.bool true) w):=by
 have b0:Below w.heap.size w (w.alloc (.cells #[.string ⟨#[97]⟩] 9)):=gj;have N0:=Z.new w 9 [.string ⟨#[97]⟩];have EB:=Y (fun V=>abT V);have ez:(xA ⟨1,uV.zero,0,0,[]⟩:List Value)=xA I7:=rfl;rw[ez]at EB;go_enter func30,ntmps30;go_wp2_with fail;refine(Q7 none 0 [] _ (fun h=>absurd h ax) ax).mono ?_;rintro _ w1 ⟨gl,rfl,hL,b1,hgl⟩;have N1:=N0.G b1 N0.lt;have H1:=tL b0 b0.size b1;have XN:=Y (SC (Ej tS tS tS XV) XV q29 (some ⟨w.heap.size,0,none⟩) 1 0 gl ⟨[],0⟩ w1 (adB w1) (adC w1 _ N1) ax hL ax ax);have asw:Hid (AU (ui XV).hS (ui XV).vc (ui XV).ed q29 (vj XV 0) ⟨[],0⟩=PV):=nb;rw[asw.out]at XN;clear b0 N0 b1 N1 hL;go_wp2_with fail;refine XN.out.mono ?_;rintro _ w2 ⟨g,v,D,rfl,hO,hX,hl,hf,hg,hD⟩;rw[abU]at hO;obtain⟨b,off,c,rfl,c0,c19⟩:=hO.ae2;have DN:=Y (Fx hX);rw[adz]at DN;obtain⟨U,X,h3,h4⟩:=adA;have HR:=Y (I6 g gl D PV.1 PV.2.1 I7 w2 hX hl J U X h3 h4);have H2:al w w2:=hf.zN H1 H1.size (fun i hi h=>by
  have:(w.alloc (.cells #[Value.string ⟨#[97]⟩] 9)).heap.size=w.heap.size+1:=ap;omega)
 clear hO hX hl hf XN asw U X h3 h4;go_wp2_with fail;refine DN.out.mono ?_;rintro _ w2' ⟨rfl,rfl⟩;clear DN c0 c19;generalize xA I7=ev at*;go_wp2_with(refine tO (.build 42 #[(0,.const (.int .i64 1))]) J ?_;go_must(refine wl J 42 _ J #[(0,.int .i64 1)] ea (EB.out _) ?_));refine HR.out.mono ?_;rintro _ w3 ⟨v3,D3,rfl,hO3,hX3,hl3,hf3,hD3⟩;have DN:=Y (Fx hX3);have SN:=Y (Fy hX3);have OC:=Y (ES g gl D3 _ w3 hX3);obtain⟨y1,y2,y3⟩:=abV;rw[y1]at DN;rw[y3]at SN;rw[y2]at OC;have H3:al w w3:=hf3.zN H2 H2.size (fun i hi h=>by
  have hgw:w.heap.size<=w1.heap.size:=H1.size;rcases h with h|h|h
  ·omega
  ·have:(w.alloc (.cells #[Value.string ⟨#[97]⟩] 9)).heap.size=w.heap.size+1:=ap;omega
  ·
   have:=hD i h;omega)
 have SN':=Y (fun V (hV:al w3 V)=>Fy (hX3.G hV));rw[y3]at SN';unfold aal at OC;clear HR hO3 hX3 hl3 hf3 hD3 hD y1 y2 y3;go_wp2_with fail;refine DN.out.mono ?_;rintro _ w3' ⟨rfl,rfl⟩;clear DN;go_wp2_with fail;refine OC.out.mono ?_;rintro _ w4 ⟨ds,rfl,hM,b4⟩;have hdl:=hM.len;have S4:=Y (SN'.out _ b4);have H4:=tL H3 H3.size b4;have FO:=Y (fun V=>ady 4 ds hdl V);obtain⟨aek,hO⟩:=ao (Value.int .i64 4::ds);rw[hO.out]at FO⊢;clear OC SN SN' hM b4;go_wp2_with(refine tO (.field 92 (.tmp 43) 0) J ?_;go_must(refine Mj (v:=.int .i64 4) bm (Si 92 (.tmp 43) 0 J J (FO.out _)) ?_));refine S4.out.mono ?_;rintro _ w4' ⟨rfl,rfl⟩;go_wp2_with fail;go_ret;exact uf.mk J H4
end Go.Proofs.YthnbcmlnpdabhaaGreat
