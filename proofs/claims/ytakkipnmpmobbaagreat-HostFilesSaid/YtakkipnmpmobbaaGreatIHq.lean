/-
  Layer 29 (xchg):what a call on an exchange leaves;send.
-/
import Derived.Test.YtakkipnmpmobbaaGreatIGq
namespace Go.Proofs.YtakkipnmpmobbaaGreat
open _root_.Go.Proofs.Tryz
set_option maxHeartbeats 8000000
open Go.RowKit
set_option maxRecDepth 100000
set_option linter.unusedVariables false
set_option linter.unusedSimpArgs false
variable {w w' B:World} {gl lo:Nat} {vn v:Value} {eb:Bool} {S:Nat->Prop} {e:Ending} {ops:Array Oper} {rest:List Oper} {o:Oper} {a:Act}
def UA(lg:Nat):Value:=if lg=2 then .func (.func 128) #[] #[]else .func (.func 130) #[] #[]
structure tJ (w:World) (g gl:Nat) (D:Option Nat) (x:Xc):Prop where
 ok:x.ok
 b:∃vn hs eb qs,ue w g gl vn x hs eb qs D/\(x.done=true->D=none)/\(x.done=false->hs=UA x.lg/\eb=x.vI/\qs=yf vn x.y/\(x.lg≠2->D=none)/\(x.lg=2->∃gd,D=some gd/\wQ w gd x.d))
def XS(g gl:Nat)(D:Option Nat)(i:Nat):Prop:=i=g\/i=gl\/D=some i
def xk(g gl:Nat)(D:Option Nat)(r:XR)(w:World)(e:Ending)(w':World):Prop:=∃v D',e= .returned v/\tf w.heap.size w' v r.2.2/\tJ w' g gl D' r.1/\sE w' gl r.2.1/\Fr (XS g gl D) w w'/\∀i,D'=some i->D=some i\/w.heap.size<=i
theorem aeW{x:Xc}{L:Lt}{lg:Nat}(h:lg≠2):wX x L lg=({x with y:=vV x L,lg:=lg,left:=x.tmo,r6:=x.r6+1},KR L,[⟨1,(vV x L).sv,(vV x L).port,(tM (ug x.q (vV x L).id (decide (lg=0)&&x.ed)) false).1⟩]):=if_neg h
theorem VK(x:Xc)(L:Lt):0<=(vV x L).id/\(vV x L).id<=65535/\(vV x L).q=x.q/\(vV x L).sv=x.tr.getD x.k sg.zero:=by
 obtain⟨U,F⟩:=EO (wW L 64512).2 (show(0:Int)<65536 by decide);exact⟨U,by show(wW (wW L 64512).2 65536).1<=65535;omega,I,I⟩
theorem VL{l:List sg}(h:∀a∈l,a.ip.length=16)(k:Nat):(l.getD k sg.zero).ip.length=16:=by
 rw[List.getD_eq_getElem?_getD];cases O:l[k]? with
 |none=>rfl
 |some a=>exact h a (List.mem_of_getElem? O)
theorem ue.qat{g:Nat}{x:Xc}{hs:Value}{y:Qy}{dp:Option Nat}(h:ue w g gl vn x hs eb (yf vn y) dp)(rB:y.sv.ip.length=16):∃M,N w g 173 M/\M.length=61/\(M.drop 10).take 3=qC vn x.q/\(M.drop 17).take 18=y.sv.cells/\(M.drop 17).take 23=yf vn y/\M[35]?=some (.int .i64 y.port)/\M[36]?=some (.int .i64 y.id):=by
 obtain⟨T,vt,ds,Z,U,_,_,_,_,h6⟩:=h.b;have hq:=h.ql;have e23:=af1 (vn:=vn) (q:=x.q) (vt:=vt) (gl:=gl) (k:=x.k) (hs:=hs) (eb:=eb) (dp:=dp) (left:=x.left) (r6:=x.r6) (hard:=x.hard) (done:=x.done) (vd:=x.vd) (ds:=ds) U hq;refine⟨_,Z,by rw[yO U hq,h6.len],aeR U hq,?_,e23,?_,?_⟩
 ·have:=congrArg (List.take 18) e23;rw[List.take_take]at this;exact this.trans (by have:=aak (vn:=vn) rB;rwa[List.drop_zero]at this)
 ·have:=congrArg (fun l=>l[18]?) e23;simp only[List.getElem?_take,List.getElem?_drop]at this;exact this.trans (zP rB 0)
 ·have:=congrArg (fun l=>l[19]?) e23;simp only[List.getElem?_take,List.getElem?_drop]at this;exact this.trans (zP rB 1)
def fdV:Value:=.func (.func 130) #[] #[]
theorem Ro(g gl:Nat)(vn:Value)(x:Xc)(L:Lt)(lg:Nat)(hs:Value)(eb0 eb:Bool)(qs:List Value)(dp:Option Nat)(w:World)(h:ue w g gl vn x hs eb0 qs dp)(E:sE w gl L)(hst:x.st)(hdn:x.done=false)(O:x.k<x.tr.length)(hu:L.us<=999999990)(hd:L.ds.length<=17592186044416)(hsn:x.r6<=1000000)(hlg:lg≠2)(heb:eb=(decide (lg=0)&&x.ed)):
  Calls prog 116 #[.pointer (some ⟨g,0,none⟩),.bool eb] w (xk g gl dp (wX x L lg) w):=by
 rw[aeW hlg,<-heb];have LG:=J (VJ g gl vn x L hs eb0 eb qs dp w h E O hu hd hsn hst.trl);obtain⟨i1,i2,iq,isv⟩:=VK x L;have aiO:(vV x L).sv.ip.length=16:=kX;obtain⟨x',hx'⟩:∃x':Xc,x'={x with y:=vV x L,left:=x.tmo,r6:=x.r6+1}:=gh;unfold Ot at LG;rw[<-hx']at LG;have hq':x'.q=x.q:=by rw[hx']
 have HX':=J hx';have HQ':=J hq';have HST:=J hst;have HEB:=J heb;obtain⟨lcs,hlc⟩:=vj E;obtain⟨T0,vt0,ds0,hb0,_⟩:=h.b;have gne:=uU hb0 hlc K;obtain⟨y,hy⟩:=aq (vV x L);rw[hy.out]at LG i1 i2 iq isv aiO⊢;clear h E hst heb hx' hlc hb0 hq';go_enter func116,ntmps116;go_wp2_with fail;refine LG.out.mono ?_;rintro _ B ⟨rfl,hB,l1,F1⟩;clear LG;have hql:=hB.ql;obtain⟨T,vt,ds,Z,U,F,h3,h4,h5,h6⟩:=hB.b;have hMl:=yO (vn:=vn) (q:=x'.q) (vt:=vt) (gl:=gl) (k:=x'.k) (hs:=hs) (eb:=eb) (dp:=dp) (left:=x'.left) (r6:=x'.r6) (hard:=x'.hard) (done:=x'.done) (vd:=x'.vd) (ds:=ds) U hql;go_wp2_with(refine rF (.store 164 (.tmp 12) (.const (.pointer none))) I (af I g 41 (Dw none) Z dH Ox ?_));intro w2 B2 g2 sw;clear sw;go_wp2_with(refine rF (.store 161 (.tmp 15) (.func 130)) I (af I g 16 (.func (.func 130) #[] #[]) B2 (by rw[List.length_set,hMl];omega) Ov ?_));intro w3 B3 g3 sw;clear sw;rw[JM U hql,JK U hql]at B3;have G3:=rO g2 g3 (.inl I);have fr:=Fr.grown (S:=fun i=>i=g) G3 Z (.inr (.inl I)) I;have hB3:ue w3 g gl vn x' fdV eb (yf vn y) none:=⟨⟨T,vt,ds,B3,U,F,h3,h4,fr.Rl h5 bV,fr.xZ h6⟩,hB.nm.rM fr.rM,hql⟩;have F3:Fr (LS g gl) w w3:=F1.trans (Fr.grown G3 Z (.inr (.inl I)) (.inl I)) (fun i _ h=>h);have l3:=l1.fr (S:=fun i=>i=g) (Fr.grown G3 Z (.inr (.inl I)) I) (fun e=>gne e.symm);obtain⟨M,hM,aCf,mq,mad,_,m35,m36⟩:=hB3.qat aiO;obtain⟨vnA,vnc,hvn,hNR⟩:=hB3.nm.form;have BU:=J (fun W (Z:ao w3 W)=>Gh vnA vnc x'.q y.id eb W (hNR.G Z) (hB3.nm.2.1));have hqv:qC vn x'.q=[.slice vnA x'.q.name.length vnc,.int .i64 x'.q.Q,.int .i64 x'.q.cl]:=by rw[hvn];rfl
 have LQ:Hid (∀V,ao w3 V->(Instr.loadAt 160 (.pointer (some ⟨g,10,none⟩))).run prog V= .ok (.agg #[.slice vnA x'.q.name.length vnc,.int .i64 x'.q.Q,.int .i64 x'.q.cl]) V):=J (fun V hV=>(hM.G hV hM.lt).tW 160 10 3 Y _ underlying160 I xS _ (by rw[mq,hqv]));have LI:Hid (∀V,ao w3 V->(Instr.loadAt 3 (.pointer (some ⟨g,36,none⟩))).run prog V= .ok (.int .i64 y.id) V):=J (fun V hV=>rQ underlying3 I ((hM.G hV hM.lt).rD 36 m36));have LP:Hid (∀V,ao w3 V->(Instr.loadAt 3 (.pointer (some ⟨g,35,none⟩))).run prog V= .ok (.int .i64 y.port) V):=J (fun V hV=>rQ underlying3 I ((hM.G hV hM.lt).rD 35 m35));have LA:Hid (∀V,ao w3 V->(Instr.loadAt 67 (.pointer (some ⟨g,17,none⟩))).run prog V= .ok (.agg y.sv.cells.toArray) V):=J (fun V hV=>(hM.G hV hM.lt).tW 67 17 18 Y _ underlying67 I uq _ mad);have HF3:=J F3;have HL3:=J l3;have HB3:=J hB3;have hsz:w.heap.size<=w3.heap.size:=F3.size;clear F3 l3 hB3 hM mq mad m35 m36 hqv hNR hvn B3 B2 g2 g3 G3 fr Z F h3 h4 h5 h6 hMl F1 l1 hB;generalize x'.q.name.length=nl at*;go_wp2_with fail;refine wp_region_held_drew (S:=fun V=>ao w3 V) (by kernel_rfl) (Below.refl _ _).drew (fun hS=>?_);refine rS hS 10 [0,1,2,3,4,5,6,7,8,9] I (by kernel_rfl) (fun _ _ _ _ _ h=>h) I I ?_;repeat(refine ak _ ?_;simp only[X])
 (refine aj _ I I (fun V hV=>(rX 160 (.tmp 19) ⟨g,10,none⟩ I I (LQ.out V hV))) ?_;simp only[X])
 repeat(refine ak _ ?_;simp only[X])
 (refine aj _ I I (fun V hV=>(rX 3 (.tmp 24) ⟨g,36,none⟩ I I (LI.out V hV))) ?_;simp only[X])
 repeat(refine ak _ ?_;simp only[X])
 simp only[sS];refine su 10 (some 27) 107 #[.agg #[.slice vnA nl vnc,.int .i64 x'.q.Q,.int .i64 x'.q.cl],.int .i64 y.id,.bool eb] (by kernel_rfl) I I (by kernel_rfl) bc (BU.out _ hS) ?_;rintro _ w4 ⟨rfl,b4⟩;have hS:=rC hS hS.size b4;refine⟨_,I,hS,?_⟩;simp only[X];obtain⟨oct,auP⟩:=aq ((tM (ug x'.q y.id eb) false).1);rw[auP.out];generalize(tM (ug x'.q y.id eb) false).2=er at*;refine rS hS 5 [11,12,13,14,15] I (by kernel_rfl) (fun _ _ _ _ _ h=>h) I I ?_
 (refine ak (.tuple #[.string (bs oct),.int .i64 er]) ?_;simp only[X])
 (refine ak (.string (bs oct)) ?_;simp only[X])
 (refine ak (.int .i64 er) ?_;simp only[X])
 (refine ak (.string (bs oct)) ?_;simp only[X])
 (refine ak (.int .i64 er) ?_;simp only[X])
 simp only[sS];refine wpAnyH_done (by kernel_rfl) ?_ _;have RB:=J (fun W=>VC 1 y.sv y.port oct aiO W);have HLo:=Ij (o:=⟨1,y.sv,y.port,oct⟩) aiO;have ON:=J (fun W=>QX W ⟨1,y.sv,y.port,oct⟩ aiO);obtain⟨oc,hoc⟩:=aq (Vy ⟨1,y.sv,y.port,oct⟩);rw[hoc.out]at RB HLo ON;obtain⟨ac,hac⟩:=aq y.sv.cells;rw[hac.out]at RB LA;have hS4:=hS;clear LQ LI BU b4;go_wp2_with fail;refine wp_region_held_drew (S:=fun V=>ao w3 V) (by kernel_rfl) (rC hS4 hS4.size (Below.refl _ _).drew) (fun hS=>?_);have KD:Below w4.heap.size w4 w4.drew:=ix;refine rS hS 12 [0,1,2,3,4,5,6,7,8,9,10,11] I (by kernel_rfl) (fun _ _ _ _ _ h=>h) I I ?_;repeat(refine ak _ ?_;simp only[X])
 (refine aj _ I I (fun V hV=>(rX 67 (.tmp 33) ⟨g,17,none⟩ I I (LA.out V hV))) ?_;simp only[X])
 repeat(refine ak _ ?_;simp only[X])
 (refine aj _ I I (fun V hV=>(rX 3 (.tmp 38) ⟨g,35,none⟩ I I (LP.out V hV))) ?_;simp only[X])
 (refine ak (.string (bs oct)) ?_;simp only[X])
 (refine aj (.agg oc.toArray) I I (fun V hV=>(wm 106 _ I #[(0,.int .i64 1),(1,.agg ac.toArray),(2,.int .i64 y.port),(3,.string (bs oct))] (by kernel_rfl) (RB.out V))) ?_;simp only[X])
 simp only[sS];refine rV 12 (by kernel_rfl) ?_;refine sx 12 (some 42) I I (by kernel_rfl) (Mr (.tmp 41) I I (QW _ oc HLo)) ?_;have OO:=ON.out w4.drew;have hS2:Below w3.heap.size w3 (w4.drew.alloc (.cells oc.toArray 106)):=hS.alloc hS.size _;refine⟨hS2,?_⟩;clear hS;have hS:=hS2;clear hS2;simp only[X];refine rS hS 1 [13] I (by kernel_rfl) (fun _ _ _ _ _ h=>h) I I ?_
 (refine ak (.slice (some ⟨w4.drew.heap.size,0,none⟩) 1 1) ?_;simp only[X])
 simp only[sS];refine wpAnyH_done (by kernel_rfl) ?_ _;have FIN:Hid (xk g gl dp ({x with y:=y,lg:=lg,left:=x.tmo,r6:=x.r6+1},KR L,[⟨1,y.sv,y.port,(tM (ug x.q y.id eb) false).1⟩]) w (.returned (.slice (some ⟨w4.drew.heap.size,0,none⟩) 1 1)) (w4.drew.alloc (.cells oc.toArray 106))):=J (by
  have XB:=HB3.out.G hS;have e1:=auP.out;rw[HQ'.out]at e1;rw[HX'.out]at XB;have st:=HST.out;refine⟨_,none,I,?_,⟨⟨fun _=>⟨st.ips,st.to1,st.to2,st.trl,st.err⟩,fun _=>⟨O,st.to1,Int.le_refl _,iq,isv,fun h=>absurd h hlg⟩⟩,⟨vn,fdV,eb,yf vn y,⟨XB.b,XB.nm,XB.ql⟩,fun _=>rfl,fun _=>⟨?_,?_,I,fun _=>rfl,fun h=>absurd h hlg⟩⟩⟩,HL3.out.G hS,?_,fun i h=>by cases h⟩
  ·rw[e1];exact OO.mono (Nat.le_trans hsz hS4.size)
  ·unfold UA;rw[if_neg hlg];rfl
  ·rw[HEB.out];rfl
  ·
   exact(HF3.out.mono (fun i h=>h.elim .inl (fun h=>.inr (.inl h)))).trans (Fr.G (S:=XS g gl dp) hS) (fun i _ h=>h))
 clear HF3 HL3 HB3 HX' HST HEB HQ' OO hS LA LP RB ON;exact qO
theorem wQ.fr{g:Nat}{d:Dl}(h:wQ w g d)(k:Fr S w w')(hg:¬S g):wQ w' g d:=by
 obtain⟨p,⟨vn,ds,⟨last,ts,b0,b1,hpl,Z,hc,r⟩,F,h3,h4⟩,r2⟩:=h;exact⟨p,⟨vn,ds,⟨last,ts,b0,b1,hpl,k.sD Z hg,tV.wF (fun j cs hj=>k.Ht hj bV) _ _ hc,r⟩,F,h3.rM k.rM,k.xZ h4⟩,r2⟩
theorem ac8{y:Qy}(h:Hu y=0):(yM y).1.st=0:=by unfold yM;rw[if_pos h]
theorem aeX(x:Xc)(L:Lt):wX x L 2=({x with y:=vV x L,lg:=2,left:=x.tmo,r6:=x.r6+1,d:=(yM (vV x L)).1},KR L,(yM (vV x L)).2):=if_pos I
def fcV:Value:=.func (.func 128) #[] #[]
theorem Hj(g gl:Nat)(vn:Value)(x:Xc)(L:Lt)(hs:Value)(eb0:Bool)(qs:List Value)(dp:Option Nat)(w:World)(h:ue w g gl vn x hs eb0 qs dp)(E:sE w gl L)(hst:x.st)(hdn:x.done=false)(O:x.k<x.tr.length)(hu:L.us<=999999990)(hd:L.ds.length<=17592186044416)(hsn:x.r6<=1000000):
  Calls prog 115 #[.pointer (some ⟨g,0,none⟩)] w (xk g gl dp (wX x L 2) w):=by
 rw[aeX];have LG:=J (VJ g gl vn x L hs eb0 false qs dp w h E O hu hd hsn hst.trl);obtain⟨i1,i2,iq,isv⟩:=VK x L;have aiO:(vV x L).sv.ip.length=16:=kX;obtain⟨x',hx'⟩:∃x':Xc,x'={x with y:=vV x L,left:=x.tmo,r6:=x.r6+1}:=gh;unfold Ot at LG;rw[<-hx']at LG;have hq':x'.q=x.q:=by rw[hx']
 have HX':=J hx';have HST:=J hst;have HQ':=J hq';obtain⟨lcs,hlc⟩:=vj E;obtain⟨T0,vt0,ds0,hb0,_⟩:=h.b;have gne:=uU hb0 hlc K;obtain⟨y,hy⟩:=aq (vV x L);rw[hy.out]at LG i1 i2 iq isv aiO⊢;clear h E hst hx' hlc hb0 hq';go_enter func115,ntmps115;go_wp2_with fail;refine LG.out.mono ?_;rintro _ B ⟨rfl,hB,l1,F1⟩;clear LG;have hql:=hB.ql;obtain⟨T,vt,ds,Z,U,F,h3,h4,h5,h6⟩:=hB.b;have hMl:=yO (vn:=vn) (q:=x'.q) (vt:=vt) (gl:=gl) (k:=x'.k) (hs:=hs) (eb:=false) (dp:=dp) (left:=x'.left) (r6:=x'.r6) (hard:=x'.hard) (done:=x'.done) (vd:=x'.vd) (ds:=ds) U hql;go_wp2_with(refine rF (.store 161 (.tmp 9) (.func 128)) I (af I g 16 (.func (.func 128) #[] #[]) Z dH Ov ?_));intro w2 B2 g2 sw;clear sw;rw[JK U hql]at B2;have fr:=Fr.grown (S:=fun i=>i=g) g2 Z (.inr (.inl I)) I;have hB2:ue w2 g gl vn x' fcV false (yf vn y) dp:=⟨⟨T,vt,ds,B2,U,F,h3,h4,fr.Rl h5 bV,fr.xZ h6⟩,hB.nm.rM fr.rM,hql⟩;have F2:Fr (LS g gl) w w2:=F1.trans (Fr.grown g2 Z (.inr (.inl I)) (.inl I)) (fun i _ h=>h);have l2:=l1.fr (S:=fun i=>i=g) fr (fun e=>gne e.symm);obtain⟨M,hM,aCf,mq,mad,m23,m35,m36⟩:=hB2.qat aiO;obtain⟨vnA,vnc,hvn,hNR⟩:=hB2.nm.form;have hnl:=hB2.nm.2.1;have DN:Hid (Calls prog 129 #[.agg (yf vn y).toArray] w2 (aaF y w2)):=J (by
  have e:x'.q=y.q:=HQ'.out.trans iq.symm;rw[e]at hNR hvn hnl;exact aaG _ y vnA vnc w2 ⟨by rw[hvn],aiO,hNR⟩ hnl)
 have HF2:=J F2;have HL2:=J l2;have HB2:=J hB2;have hsz:w.heap.size<=w2.heap.size:=F2.size;clear F2 l2 hB2 mq mad m35 m36 hNR hvn g2 fr Z F h3 h4 h5 h6 hMl F1 l1 hB hnl B2;go_wp2_with(refine rF (.load 163 (.tmp 13)) I ?_;go_must(refine rG I _ _ I g 17 I hM 23 Y _ underlying163 I D7 (yf vn y) m23 ?_));refine DN.out.mono ?_;rintro _ w4 ⟨gd,v4,rfl,hD4,hO4,b4,hgd⟩;obtain⟨T,vt,ds,Z,U,F,h3,h4,h5,h6⟩:=(HB2.out.G b4).b;have hMl:=yO (vn:=vn) (q:=x'.q) (vt:=vt) (gl:=gl) (k:=x'.k) (hs:=fcV) (eb:=false) (dp:=dp) (left:=x'.left) (r6:=x'.r6) (hard:=x'.hard) (done:=x'.done) (vd:=x'.vd) (ds:=ds) U hql;clear hM m23 DN;go_wp2_with(refine rF (.store 164 (.tmp 21) (.tmp 19)) I (af I g 41 (Dw (some gd)) Z dH Ox ?_));intro w5 B5 g5 sw;clear sw;rw[JM U hql]at B5;have aLS:g<w2.heap.size:=HB2.out.lt;have FIN:Hid (xk g gl dp ({x with y:=y,lg:=2,left:=x.tmo,r6:=x.r6+1,d:=(yM y).1},KR L,(yM y).2) w (.returned v4) w5):=J (by
  have fr5:=Fr.grown (S:=fun i=>i=g) g5 Z (.inr (.inl I)) I;have st:=HST.out;have XB:ue w5 g gl vn x' fcV false (yf vn y) (some gd):=⟨⟨T,vt,ds,B5,U,F,h3,h4,fr5.Rl h5 bV,fr5.xZ h6⟩,(HB2.out.G b4).nm.rM fr5.rM,hql⟩;rw[HX'.out]at XB;have hdy:Hu y=0:=by unfold Hu;rw[iq];exact st.err _ _ i1 i2
  refine⟨_,some gd,I,?_,⟨⟨fun _=>⟨st.ips,st.to1,st.to2,st.trl,st.err⟩,fun _=>⟨O,st.to1,Int.le_refl _,iq,isv,fun _=>⟨ac8 hdy,aeN y,acP y⟩⟩⟩,⟨vn,fcV,false,yf vn y,⟨XB.b,XB.nm,XB.ql⟩,fun e=>?_,fun _=>⟨I,I,I,fun h=>absurd I h,fun _=>⟨gd,I,hD4.fr fr5 Y⟩⟩⟩⟩,(HL2.out.G b4).fr fr5 (fun e=>gne e.symm),?_,fun i h=>?_⟩
  ·exact(hO4.grown g5 Y).mono Y
  ·rw[hdn]at e;cases e
  ·exact((HF2.out.mono (fun i h=>h.elim .inl (fun h=>.inr (.inl h)))).trans (Fr.G (S:=XS g gl dp) b4) (fun i _ h=>h)).trans (Fr.grown (S:=XS g gl dp) g5 Z (.inr (.inl I)) (.inl I)) (fun i _ h=>h)
  ·
   injection h with h;exact .inr Y)
 clear HF2 HL2 HB2 HX' HST HQ' hD4 hO4 b4 Z F h3 h4 h5 h6 hMl B5 g5;exact qO
theorem xk.back{g:Nat}{D:Option Nat}{r:XR}(h:xk g gl D r B e w')(k:Fr (XS g gl D) w B):xk g gl D r w e w':=by
 obtain⟨v,D',he,ho,hx,E,hf,hD⟩:=h;exact⟨v,D',he,ho.mono k.size,hx,E,k.trans hf (fun _ _ h=>h),fun i hi=>(hD i hi).imp id (fun h=>Nat.le_trans k.size h)⟩
def VM(g gl:Nat)(vn:Value)(x:Xc)(hs:Value)(eb:Bool)(qs:List Value)(dp:Option Nat)(w:World)(e:Ending)(w':World):Prop:=e= .returned (.bool (decide (x.left-1<=0)))/\ue w' g gl vn {x with left:=x.left-1} hs eb qs dp/\w.grownBy w' (some g)
theorem Rp(g gl:Nat)(vn:Value)(x:Xc)(hs:Value)(eb:Bool)(qs:List Value)(dp:Option Nat)(w:World)(h:ue w g gl vn x hs eb qs dp)(U:1<=x.left)(F:x.left<=30):
  Calls prog 142 #[.pointer (some ⟨g,0,none⟩)] w (VM g gl vn x hs eb qs dp w):=by
 have ag6:=sU w g 42 (.int .i64 (x.left-1));have FIN:Hid (VM g gl vn x hs eb qs dp w (.returned (.bool (decide (x.left-1<=0)))) (w.setCell ⟨g,42,none⟩ (.int .i64 (x.left-1)))):=J ⟨I,h.put ag6 I I I I I I h.ql (fun T vt ds hT hd Z=>by
  have:=Z.set 42 (.int .i64 (x.left-1));rwa[JN hT h.ql]at this),ag6⟩
 obtain⟨L,vt,ds,Z,_,_,_,_,_,_,_,_,_,_,_,_,c42,_⟩:=h.cells;have d42:=Z.rD 42 c42;have f42:=Z.frozen 42;have hgl:=Z.lt;clear Z c42 h ag6;generalize x.left=n at*;go_enter func142,ntmps142;exact qO
theorem Rr(v:Int)(W:World):(Instr.build 171 #[(0,.int .i64 v)]).run prog W= .ok (.agg (Value.int .i64 v::sV).toArray) W:=by kernel_rfl
theorem aa0(v:Int):∀u∈(Value.int .i64 v::sV:List Value),u.oneCell'=true:=by
 intro u hu;rcases List.mem_cons.1 hu with rfl|hu
 ·rfl
 ·exact(sA.zero default).one u hu
theorem Ee.x{g:Nat}{x:Xc}{vd:Int}{m:tq}{L:Lt}{D:Option Nat}(h:Ee g gl vn x eb vd m w e w')(E:sE w gl L)(hg:g≠gl):e= .returned (.tuple #[])/\xk g gl D ({x with done:=true,vd:=vd,xZ:=m},L,[]) w (.returned rI) w':=by
 obtain⟨he,Z,fr⟩:=h;exact⟨he,_,none,I,tf.nil _ _,⟨⟨fun h=>cX,fun h=>cX⟩,⟨vn,_,eb,_,Z,fun _=>rfl,fun h=>cX⟩⟩,E.fr fr (fun e=>hg e.symm),fr.mono (fun _ h=>.inl h),fun i h=>cX⟩
theorem MI(g gl:Nat)(vn:Value)(x:Xc)(L:Lt)(hs:Value)(eb:Bool)(qs:List Value)(dp:Option Nat)(w:World)(h:ue w g gl vn x hs eb qs dp)(E:sE w gl L)(hst:x.st)(hdn:x.done=false)(hu:L.us<=999999990)(hd:L.ds.length<=17592186044416)(hsn:x.r6<=1000000):
  Calls prog 109 #[.pointer (some ⟨g,0,none⟩)] w (xk g gl dp (Bp x L) w):=by
 obtain⟨R,hR⟩:=aq (Bp x L);rw[hR.out];obtain⟨lcs,hlc⟩:=vj E;obtain⟨M,vt,ds,Z,hM,c4,c7,c9,c10,c13,c14,c15,c16,c17,c40,c41,c42,c43,c44,c45,c46,hT,hm⟩:=h.cells;have gne:=uU Z hlc K;obtain⟨At,ct,hvt⟩:=hT.form;have htl:=hst.trl;have d15:=Z.rD 15 c15;have d13:=Z.rD 13 c13;rw[hvt]at d13;have HK:=J (Z.rD 7 c7);have HE:=J (Z.rD 9 c9);have d44:=Z.rD 44 c44;have H:=Lib.hid h;have HLT:=J E;have HST:=J hst;by_cases O:x.k<x.tr.length
 case neg=>
  have hk':(x.k:Int)>=x.tr.length:=Y;have hk2:decide ((x.tr.length:Int)<=x.k)=true:=aB;have HR:Hid (R=({x with done:=true,vd:=if x.hard then 5 else 4,xZ:=tq.zero},L,[])):=J (by rw[<-hR.out];unfold Bp;rw[if_neg O]);clear h E hst hlc Z hT hm c4 c7 c9 c10 c13 c14 c15 c16 c17 c40 c41 c42 c43 c44 c45 c46 hR hvt O;generalize x.tr.length=n at*;have HRF:Hid (x.hard=false->R=({x with done:=true,vd:=4,xZ:=tq.zero},L,[])):=mh;have HRT:Hid (x.hard=true->R=({x with done:=true,vd:=5,xZ:=tq.zero},L,[])):=mh;obtain⟨k,hkk⟩:∃k,k=x.k:=gh;rw[<-hkk]at d15 hk' hk2;obtain⟨hd,hhd⟩:∃hd,hd=x.hard:=gh;rw[<-hhd]at d44;have HHD:=J hhd;clear hkk hhd HR;go_enter func109,ntmps109;go_wp2_with fail;go_quiet(fail);obtain⟨W,hW⟩:∃W,W=w.drewN nq:=gh;rw[<-hW];have HW:ao w W:=gV;have e44:W.cell? ⟨g,44,none⟩=some (.bool hd):=hW▸d44;clear hW d44 d15 d13 hk' hk2;have RZ:=J (fun V=>Rr 4 V);have zl:(Value.int .i64 4::sV:List Value).length=15:=jZ;have zl0:(Value.int .i64 0::sV:List Value).length=15:=jZ;have zl5:(Value.int .i64 5::sV:List Value).length=15:=jZ;have zo:=aa0 4;have Z5:(Value.int .i64 4::sV:List Value).set 0 (.int .i64 5)=Value.int .i64 5::sV:=rfl;have F4:Hid (∀V,ao w V->Calls prog 108 #[.pointer (some ⟨g,0,none⟩),.agg (Value.int .i64 4::sV).toArray] V (Ee g gl vn x eb 4 tq.zero V)):=J (fun V Z=>Bu g gl vn x hs eb qs dp 4 sV tq.zero V (H.out.G Z) (sA.zero _));have F5:Hid (∀V,ao w V->Calls prog 108 #[.pointer (some ⟨g,0,none⟩),.agg (Value.int .i64 5::sV).toArray] V (Ee g gl vn x eb 5 tq.zero V)):=J (fun V Z=>Bu g gl vn x hs eb qs dp 5 sV tq.zero V (H.out.G Z) (sA.zero _));have BZ:=N.new W 171 (Value.int .i64 0::sV);obtain⟨ahX,hZ⟩:=aq (Value.int .i64 4::sV);obtain⟨ay2,hY⟩:=aq (Value.int .i64 5::sV);rw[hZ.out]at RZ zl zo Z5 F4;rw[hY.out]at zl5 Z5 F5;have hWs:=HW.size;go_wp2_with(first
   |(refine rF (.build 171 #[(0,.const (.int .i64 4))]) rfl ?_;go_must(refine sy rfl 171 _ rfl #[(0,.int .i64 4)] cY (RZ.out _) ?_))
   |(refine rF (.store 171 (.tmp 3) (.tmp 14)) rfl (ab rfl W.heap.size 0 ahX BZ (by rw[zl,zl0];decide) (by rw[zl];exact zv) zo ?_)))
  intro w3 B3 g3 sw;clear sw;replace B3:=tH (L:=ahX) B3 cR;have K3:ao W w3:=jm;have H3:=rC HW HW.size K3;have d44:w3.cell? ⟨g,44,none⟩=some (.bool hd):=by rw[<-e44];exact World.cell?_of_block (K3.block _ (Nat.lt_of_lt_of_le H.out.lt HW.size))
  clear g3 e44 BZ RZ zo zl0 K3;generalize W.heap.size=gz at*;cases hd with
  |false=>have HR2:Hid (R=({x with done:=true,vd:=4,xZ:=tq.zero},L,[])):=J (HRF.out HHD.out.symm);have BV:=B3;have HV:=H3;have FV:=F4;have ZL:=zl;clear B3 H3 F4 F5 HRF HRT Z5 zl5 HHD;exact ny
  |true=>have HR2:Hid (R=({x with done:=true,vd:=5,xZ:=tq.zero},L,[])):=J (HRT.out HHD.out.symm);go_wp2_with(refine rF (.store 3 (.tmp 19) (.const (.int .i64 5))) I (af I gz 0 (.int .i64 5) B3 (by rw[zl];decide) tG ?_));intro w4 BV g4 sw;clear sw;have HV:ao w w4:=rE H3 g4 H3.size hWs;have FV:=F5;have ZL:=zl5;clear B3 H3 F4 F5 HRF HRT Z5 zl HHD d44 g4;exact ny
 have HR:Hid (R=wX x L (if x.vc then 2 else 0)):=J (by rw[<-hR.out];unfold Bp;rw[if_pos O]);have hk':¬(x.k:Int)>=x.tr.length:=Y;have hk2:decide ((x.tr.length:Int)<=x.k)=false:=aB;have CN:=J (fun V Z=>Hj g gl vn x L hs eb qs dp V (H.out.G Z) (HLT.out.G Z) HST.out hdn O hu hd hsn);have SN:=J (fun V Z=>Ro g gl vn x L 0 hs eb x.ed qs dp V (H.out.G Z) (HLT.out.G Z) HST.out hdn O hu hd hsn K ar);clear h E hst hlc Z hT hm c4 c7 c9 c10 c13 c14 c15 c16 c17 c40 c41 c42 c43 c44 c45 c46 hR hvt O d44 H HLT HST;generalize x.tr.length=n,x.k=k at*;generalize hvc:x.vc=vc at*;have HVC:=J hvc;generalize x.ed=ed at*;go_enter func109,ntmps109;go_wp2_with fail;go_quiet(fail);obtain⟨W,hW⟩:∃W,W=w.drewN nq:=gh;rw[<-hW];have HW:ao w W:=gV;have d7:W.cell? ⟨g,7,none⟩=some (.bool vc):=hW▸HK.out;have d9:W.cell? ⟨g,9,none⟩=some (.bool ed):=hW▸HE.out;have C1:=J (CN.out W HW);have S1:=J (SN.out W HW);have FW:Fr (XS g gl dp) w W:=Fr.G HW;have HFW:=J FW;clear hW d15 d13 HK HE CN SN hvc FW;cases vc with
 |true=>clear S1;go_wp2_with fail;refine C1.out.mono ?_;exact oO
 |false=>clear C1;go_wp2_with fail;refine S1.out.mono ?_;exact oO
theorem CP(g gl:Nat)(vn:Value)(x:Xc)(L:Lt)(hs:Value)(eb:Bool)(qs:List Value)(dp:Option Nat)(w:World)(h:ue w g gl vn x hs eb qs dp)(E:sE w gl L)(hst:x.st)(hdn:x.done=false)(O:x.k<x.tr.length)(hu:L.us<=999999990)(hd:L.ds.length<=17592186044416)(hsn:x.r6<=1000000):
  Calls prog 144 #[.pointer (some ⟨g,0,none⟩)] w (xk g gl dp (vD x L) w):=by
 have ag6:=sU w g 15 (.int .i64 ((x.k+1:Nat):Int));obtain⟨lcs,hlc⟩:=vj E;have hkl:(x.k:Int)<=1000:=by have:=hst.trl;omega
 have hk0:(0:Int)<=x.k:=Y;have BG:Hid (Calls prog 109 #[.pointer (some ⟨g,0,none⟩)] (w.setCell ⟨g,15,none⟩ (.int .i64 ((x.k:Int)+1))) (xk g gl dp (vD x L) w)):=J (by
  have e:(.int .i64 ((x.k:Int)+1))=Value.int .i64 ((x.k+1:Nat):Int):=fY;rw[e];have hX:ue (w.setCell ⟨g,15,none⟩ (.int .i64 ((x.k+1:Nat):Int))) g gl vn {x with k:=x.k+1} hs eb qs dp:=h.put ag6 I I I I I I h.ql (fun T vt ds hT hd Z=>by
   have:=Z.set 15 (.int .i64 ((x.k+1:Nat):Int));rwa[ac4 hT h.ql]at this)
  obtain⟨T,vt,ds,Z,_⟩:=h.b;have gne:=uU Z hlc K;have fr:Fr (fun i=>i=g) w (w.setCell ⟨g,15,none⟩ (.int .i64 ((x.k+1:Nat):Int))):=Fr.grown ag6 Z (.inr (.inl I)) I;have:=MI g gl vn {x with k:=x.k+1} L hs eb qs dp _ hX (E.fr fr (fun e=>gne e.symm)) ⟨hst.ips,hst.to1,hst.to2,hst.trl,hst.err⟩ hdn hu hd hsn;exact this.mono (fun e w' hx=>hx.back (fr.mono (fun _ h=>.inl h))))
 obtain⟨M,vt,ds,Z,_,_,_,_,_,_,_,c15,_⟩:=h.cells;have d15:=Z.rD 15 c15;have f15:=Z.frozen 15;have hgl:=Z.lt;clear Z c15 h E hlc ag6 hst O;generalize vD x L=R at*;generalize(x.k:Int)=k at*;go_enter func144,ntmps144;go_wp2_with fail;refine BG.out.mono ?_;rintro e1 B ⟨v,D',rfl,hx⟩;have HX:=J hx;clear hx;go_wp2_with fail;go_ret;exact⟨v,D',I,HX.out⟩
theorem af4:(prog.info? 166).map (·.size)=some 10:=by kernel_rfl
theorem sA.head{ds:List Value}{m:tq}(h:sA w ds m):(ds.drop 0).take 10=m.hd.uY:=by
 obtain⟨vq,va,vu,ve,rfl,_⟩:=h;rfl
theorem JQ(g gl:Nat)(vn:Value)(x:Xc)(L:Lt)(hs:Value)(conn:Bool)(qs:List Value)(dp:Option Nat)(ds:List Value)(m:tq)(w:World)(h:ue w g gl vn x hs x.vI qs dp)(E:sE w gl L)(hst:x.st)(hdn:x.done=false)(O:x.k<x.tr.length)(hu:L.us<=999999990)(hd:L.ds.length<=17592186044416)(hsn:x.r6<=1000000)(hc:conn=decide (x.lg=2))(hm:sA w ds m):
  Calls prog 147 #[.pointer (some ⟨g,0,none⟩),.agg ds.toArray,.bool conn] w (xk g gl dp (xY x L m) w):=by
 obtain⟨R,hR⟩:=aq (xY x L m);rw[hR.out];have hdl:=hm.len;have hhd:=hm.head;have HM:=J hm;have HT:Hid (R=if wR m.hd conn x.vI=1 then({x with done:=true,vd:=vU x.q m,xZ:=m},L,[])
  else if wR m.hd conn x.vI=2 then wX x L 2
  else if wR m.hd conn x.vI=3 then wX x L 1
  else if wR m.hd conn x.vI=5 then vD {x with hard:=true} L
  else vD x L):=J (by rw[hc,<-hR.out];rfl)
 have VO:=J (fun V=>ac3 m.hd conn x.vI V);obtain⟨lcs,hlc⟩:=vj E;obtain⟨M,vt,ds0,Z,hM,c4,c7,c9,c10,c13,c14,c15,c16,c17,c40,c41,c42,c43,c44,c45,c46,hTr,hm0⟩:=h.cells;have gne:=uU Z hlc K;have hgl:=Z.lt;obtain⟨A,cA,hvn,hNR⟩:=h.nm.form;have hnl:=h.nm.2.1;have HN:=J hNR;have H:=Lib.hid h;have HLT:=J E;have HST:=J hst;have HB:=J Z;have C10:Hid ((M.drop 10).take 3=[.slice A x.q.name.length cA,.int .i64 x.q.Q,.int .i64 x.q.cl]):=J (by rw[c10,hvn];rfl);have C40:=J c40;have FI:=J (fun V (hV:ao w V)=>XO x.q A cA ds m V (hNR.G hV) hnl (hm.G hV));have FN:=J (fun V (hV:ao w V)=>Bu g gl vn x hs x.vI qs dp (vU x.q m) ds m V (h.G hV) (hm.G hV));have CN:=J (fun V Z=>Hj g gl vn x L hs x.vI qs dp V (h.G Z) (E.G Z) hst hdn O hu hd hsn);have SN:=J (fun V Z=>Ro g gl vn x L 1 hs x.vI false qs dp V (h.G Z) (E.G Z) hst hdn O hu hd hsn K I);have NX:=J (fun V Z=>CP g gl vn x L hs x.vI qs dp V (h.G Z) (E.G Z) hst hdn O hu hd hsn);have NH:Hid (∀V,ao w V->Calls prog 144 #[.pointer (some ⟨g,0,none⟩)] (V.setCell ⟨g,44,none⟩ (.bool true)) (xk g gl dp (vD {x with hard:=true} L) V)):=J (fun V hV=>by
  have ag6:=sU V g 44 (.bool true);have hX:ue (V.setCell ⟨g,44,none⟩ (.bool true)) g gl vn {x with hard:=true} hs x.vI qs dp:=(h.G hV).put ag6 I I I I I I h.ql (fun T vt ds hT hd Z=>by
   have:=Z.set 44 (.bool true);rwa[Uu hT h.ql]at this)
  have fr:Fr (fun i=>i=g) V (V.setCell ⟨g,44,none⟩ (.bool true)):=Fr.grown ag6 (Z.G hV Z.lt) (.inr (.inl I)) I;exact(CP g gl vn {x with hard:=true} L hs x.vI qs dp _ hX ((E.G hV).fr fr (fun e=>gne e.symm)) ⟨hst.ips,hst.to1,hst.to2,hst.trl,hst.err⟩ hdn O hu hd hsn).mono (fun e w' hx=>hx.back (fr.mono (fun _ h=>.inl h))))
 have f44:∀V,ao w V->V.frozen? ⟨g,44,none⟩=false:=fun V hV=>(Z.G hV Z.lt).frozen 44
 have amD:=J f44;have D44:=J (fun V (hV:ao w V)=>(Z.G hV Z.lt).rD 44 c44);have HX:Below w.heap.size w (w.alloc (.cells ds.toArray 169)):=fZ;have BX:=N.new w 169 ds;clear Z hTr hm0 c4 c7 c9 c13 c14 c15 c16 c17 c40 c41 c42 c43 c44 c45 c46 hR h E hst hc hm hlc hvn hNR f44;generalize wR m.hd conn x.vI=vv at*;generalize vU x.q m=fv at*;generalize x.vI=eb,m.hd.uY=hv at*;obtain⟨gm,hgm⟩:∃gm,gm=w.heap.size:=gh;generalize x.q.name.length=nl at*;obtain⟨W0,hW0⟩:=aq (w.alloc (.cells ds.toArray 169));rw[hW0.out]at HX BX;go_enter func147,ntmps147;go_wp2_with fail;rw[hW0.out];refine wp_region_held_drew (S:=fun V=>ao W0 V) (by kernel_rfl) (Below.refl _ _).drew (fun hS=>?_);refine rS hS 7 [0,1,2,3,4,5,6] I (by kernel_rfl) (fun _ _ _ _ _ h=>h) I I ?_;repeat(refine ak _ ?_;simp only[X])
 (refine aj _ I I (fun V hV=>(rX 166 (.tmp 7) ⟨w.heap.size,0,none⟩ I I ((BX.G hV BX.lt).tW 166 0 10 Y _ underlying166 I af4 _ hhd))) ?_;simp only[X])
 repeat(refine ak _ ?_;simp only[X])
 (refine aj _ I I (fun V hV=>(rX 4 (.tmp 12) ⟨g,40,none⟩ I I (rQ underlying4 I ((HB.out.G (rC HX HX.size hV) hgl).rD 40 C40.out)))) ?_;simp only[X])
 simp only[sS];refine su 7 (some 14) 159 #[.agg hv.toArray,.bool conn,.bool eb] (by kernel_rfl) I I (by kernel_rfl) bc (VO.out _) ?_;rintro _ w4 ⟨rfl,b4⟩;have hS:=rC hS hS.size b4;refine⟨_,I,hS,?_⟩;simp only[X];refine wpAnyH_done (by kernel_rfl) ?_ _;have HW:=rC HX HX.size hS;have BW:=BX.G hS BX.lt;have FW:Hid (Fr (XS g gl dp) w w4):=J (Fr.G HW);clear HX BX hS b4 VO hhd C40;by_cases v1:vv=1
 case pos=>
  have HR2:Hid (R=({x with done:=true,vd:=fv,xZ:=m},L,[])):=J (by rw[HT.out,if_pos v1]);subst v1;have LQ:∀V,ao w V->(Instr.loadAt 160 (.pointer (some ⟨g,10,none⟩))).run prog V= .ok (.agg #[.slice A nl cA,.int .i64 x.q.Q,.int .i64 x.q.cl]) V:=fun V hV=>(HB.out.G hV hgl).tW 160 10 3 Y _ underlying160 I xS _ C10.out
  have LQ2:Hid (∀V hs' eb' qs' dp',ue V g gl vn {x with done:=true,vd:=fv,xZ:=m} hs' eb' qs' dp'->(Instr.loadAt 160 (.pointer (some ⟨g,10,none⟩))).run prog V= .ok (.agg #[.slice A nl cA,.int .i64 x.q.Q,.int .i64 x.q.cl]) V):=J (fun V hs' eb' qs' dp' hV=>by
   obtain⟨M',vt',ds',hb',hM',_,_,_,aCE,_⟩:=hV.cells;exact hb'.tW 160 10 3 Y _ underlying160 I xS _ (aCE.trans (c10.symm.trans C10.out)))
  have LM:∀V,N V w.heap.size 169 ds->(Instr.loadAt 169 (.pointer (some ⟨w.heap.size,0,none⟩))).run prog V= .ok (.agg ds.toArray) V:=fun V hV=>hV.tW 169 0 14 Y _ underlying169 I tn _ (uH Y)
  have HLM:=J LM;have HLQ:=J LQ;have hWd:Below w.heap.size w w4.drew:=HW.drew;have hS0:=And.intro (LQ _ hWd) (LM _ BW.drew);clear HT CN SN NX NH amD D44 C10 LQ LM c10;go_wp2_with fail;refine wp_region_held_drew (S:=fun V=>(Instr.loadAt 160 (.pointer (some ⟨g,10,none⟩))).run prog V= .ok (.agg #[.slice A nl cA,.int .i64 x.q.Q,.int .i64 x.q.cl]) V/\(Instr.loadAt 169 (.pointer (some ⟨w.heap.size,0,none⟩))).run prog V= .ok (.agg ds.toArray) V) (by kernel_rfl) hS0 (fun hS=>?_);refine rS hS 6 [0,1,2,3,4,5] I (by kernel_rfl) (fun _ _ _ _ _ h=>h) I I ?_;repeat(refine ak _ ?_;simp only[X])
  (refine aj _ I I (fun V hV=>(rX 160 (.tmp 20) ⟨g,10,none⟩ I I hV.1)) ?_;simp only[X])
  (refine aj _ I I (fun V hV=>(rX 169 (.tmp 4) ⟨w.heap.size,0,none⟩ I I hV.2)) ?_;simp only[X])
  simp only[sS];refine rV 6 (by kernel_rfl) ?_;refine sZ 6 (some 23) 160 #[.agg #[.slice A nl cA,.int .i64 x.q.Q,.int .i64 x.q.cl],.agg ds.toArray] I I (by kernel_rfl) bc (FI.out _ hWd) ?_;rintro _ w5 ⟨rfl,b5⟩;have hW5:=rC hWd hWd.size b5;have BW5:N w5 w.heap.size 169 ds:=BW.drew.G b5 BW.drew.lt;refine⟨_,I,⟨HLQ.out _ hW5,HLM.out _ BW5⟩,?_⟩;simp only[X];refine rV 7 (by kernel_rfl) ?_;refine sZ 7 (some 24) 108 #[.pointer (some ⟨g,0,none⟩),.agg (Value.int .i64 fv::ds).toArray] I I (by kernel_rfl) bc (FN.out _ hW5) ?_;intro e9 w9 hf;have B9:N w9 w.heap.size 169 ds:=hf.2.2.sD BW5 Y;have Q9:=LQ2.out w9 _ _ _ _ hf.2.1;obtain⟨he,hx⟩:=hf.x (L:=L) (D:=dp) (HLT.out.G hW5) gne;rw[he];have HX:=J (hx.back (Fr.G hW5));refine⟨_,I,⟨Q9,HLM.out _ B9⟩,?_⟩;clear he hf hx FI FN LQ2 HLM HLQ hS hS0 BW B9 Q9 BW5;simp only[X];refine wpAnyH_done (by kernel_rfl) ?_ _;go_wp2_with fail;go_ret;rw[HR2.out];exact HX.out
 have n1:(vv==1)=false:=by simpa using v1
 clear FI FN;by_cases v2:vv=2
 case pos=>have HR2:Hid (R=wX x L 2):=J (by rw[HT.out,if_neg v1,if_pos v2]);subst v2;have C:=J (CN.out _ HW);clear HT CN SN NX NH amD D44 BW v1;exact mX
 have n2:(vv==2)=false:=by simpa using v2
 by_cases v3:vv=3
 case pos=>have HR2:Hid (R=wX x L 1):=J (by rw[HT.out,if_neg v1,if_neg v2,if_pos v3]);subst v3;have C:=J (SN.out _ HW);clear HT CN SN NX NH amD D44 BW v1 v2;exact mX
 have n3:(vv==3)=false:=by simpa using v3
 by_cases v5:vv=5
 case pos=>have HR2:Hid (R=vD {x with hard:=true} L):=J (by rw[HT.out,if_neg v1,if_neg v2,if_neg v3,if_pos v5]);subst v5;have C:=J (NH.out _ HW);have f44:=amD.out _ HW;have d44:=D44.out _ HW;have hgw:g<w4.heap.size:=Nat.lt_of_lt_of_le hgl HW.size;clear HT CN SN NX NH amD D44 BW v1 v2 v3;exact mX
 have n5:(vv==5)=false:=by simpa using v5
 have HR2:Hid (R=vD x L):=J (by rw[HT.out,if_neg v1,if_neg v2,if_neg v3,if_neg v5]);have C:=J (NX.out _ HW);clear HT CN SN NX NH amD D44 BW v1 v2 v3 v5;exact mX
theorem MJ:(prog.info? 69).map (·.size)=some 22:=by kernel_rfl
theorem tJ.G{g:Nat}{D:Option Nat}{x:Xc}(h:tJ w g gl D x)(k:ao w w'):tJ w' g gl D x:=by
 obtain⟨ok,vn,hs,eb,qs,Z,U,F⟩:=h;refine⟨ok,vn,hs,eb,qs,Z.G k,U,fun hd=>?_⟩;obtain⟨a,b,c,d,e⟩:=F hd;refine⟨a,b,c,d,fun E=>?_⟩;obtain⟨gd,hg,hD⟩:=e E;exact⟨gd,hg,hD.G k⟩
theorem tJ.sD{g:Nat}{D:Option Nat}{x:Xc}(h:tJ w g gl D x):∃L,N w g 173 L:=by
 obtain⟨ok,vn,hs,eb,qs,Z,_⟩:=h;obtain⟨T,vt,ds,Z,_⟩:=Z.b;exact⟨_,Z⟩
theorem xk.none{g:Nat}{D:Option Nat}{x:Xc}{L:Lt}(h:tJ w' g gl D x)(E:sE w' gl L)(k:Fr (XS g gl D) w w'):xk g gl D (x,L,[]) w (.returned rI) w':=⟨_,D,I,tf.nil _ _,h,E,k,fun i hi=>.inl hi⟩
theorem Oy(g gl:Nat)(D:Option Nat)(x:Xc)(L:Lt)(e:Ev)(w:World)(h:tJ w g gl D x)(E:sE w gl L)(hdn:x.done=false)(hlg:x.lg≠2)(rB:e.fr.ip.length=16)(hs:e.data.length<=maxLen)(hu:L.us<=999999990)(hd:L.ds.length<=17592186044416)(hsn:x.r6<=1000000):
  Calls prog 130 #[.pointer (some ⟨g,0,none⟩),.agg (vA e).toArray] w (xk g gl D (sK x L e) w):=by
 obtain⟨R,hR⟩:=aq (sK x L e);rw[hR.out];have HT:Hid (R=if e.kind=1 then(if x.left<=1 then vD {x with left:=x.left-1} L else({x with left:=x.left-1},L,[]))
  else if(EZ x.y e).2 then xY x L (EZ x.y e).1 else(x,L,[])):=J (by rw[<-hR.out];unfold sK;rw[if_neg dI,if_neg hlg])
 have HAT:=Lib.hid h;obtain⟨ok,vn,hv,eb,qs,Z,-,F⟩:=h;obtain⟨O,hl1,hl2,hyq,ara,-⟩:=ok.go hdn;have hst:=ok.st hdn;obtain⟨hhv,heb,hqs,hD,-⟩:=F hdn;have hD:=hD hlg;subst hD;subst heb;subst hqs;have aiO:x.y.sv.ip.length=16:=by rw[ara];exact VL hst.ips _
 obtain⟨lcs,hlc⟩:=vj E;obtain⟨T,vt,ds0,hbk,-⟩:=Z.b;have gne:=uU hbk hlc K;clear hbk hlc T vt ds0;have hel:=yX rB;have E0:(vA e)[0]?=some (.int .i64 e.kind):=rfl;have HB:=J Z;have HLT:=J E;have HST:=J hst;have HOK:=J ok;have hto:x.left<=30:=Int.le_trans hl2 hst.to2;have HX:Below w.heap.size w (w.alloc (.cells (vA e).toArray 69)):=fZ;have h2:=N.new w 69 (vA e);have HE:=J h2;have d0:=h2.rD 0 E0;obtain⟨A,cA,hvn,hNR⟩:=Z.nm.form;rw[<-hyq]at hvn hNR;have PK:=J (fun V (hV:ao w V)=>Ug (yf vn x.y) x.y A cA e V (QN.G ⟨by rw[hvn],aiO,hNR⟩ hV) rB hs);have HVN:=J hhv;clear E hst ok hvn hNR hs hyq ara hR h2;obtain⟨B,hw1⟩:=aq (w.alloc (.cells (vA e).toArray 69));rw[hw1.out]at HX HE;have FX:Fr (XS g gl none) w B:=Fr.G HX;by_cases hk1:e.kind=1
 case pos=>
  rw[if_pos hk1]at HT;have OV:=J (Rp g gl vn x hv x.vI (yf vn x.y) none B (Z.G HX) hl1 hto);unfold VM at OV;rw[hk1]at d0;clear hk1 PK HE Z E0 F;by_cases hl0:x.left<=1
  case pos=>rw[if_pos hl0]at HT;rw[show decide (x.left-1<=0)=true by simp;omega]at OV;clear hl0;generalize vA e=es at*;go_enter func130,ntmps130;go_wp2_with fail;rw[hw1.out];refine OV.out.mono ?_;rintro _ w2 ⟨rfl,hb2,g2⟩;obtain⟨T,vt,ds0,hbk,_⟩:=(HB.out.G HX).b;have F2:=Fr.grown (S:=fun i=>i=g) g2 hbk (.inr (.inl I)) I;have hl2:=(HLT.out.G HX).fr F2 (fun e=>gne e.symm);have NX:=J (CP g gl vn {x with left:=x.left-1} L hv x.vI (yf vn x.y) none w2 hb2 hl2 ⟨HST.out.ips,HST.out.to1,HST.out.to2,HST.out.trl,HST.out.err⟩ hdn O hu hd hsn);have FF:=J (FX.trans (F2.mono (S':=XS g gl none) (fun _ h=>.inl h)) (fun _ _ h=>h));clear hbk hb2 g2 F2 hl2 OV d0 FX;go_wp2_with fail;refine NX.out.mono ?_;intro e1 w9 hx;have hx:=hx.back FF.out;obtain⟨v,D',rfl,hx2⟩:=hx;have HX2:=J hx2;clear hx2 hx;go_wp2_with fail;go_ret;rw[HT.out];exact qt
  case neg=>
   rw[if_neg hl0]at HT;rw[show decide (x.left-1<=0)=false by simp;omega]at OV;have HL:=J hl0;clear hl0;generalize vA e=es at*;go_enter func130,ntmps130;go_wp2_with fail;rw[hw1.out];refine OV.out.mono ?_;rintro _ w2 ⟨rfl,hb2,g2⟩;obtain⟨T,vt,ds0,hbk,_⟩:=(HB.out.G HX).b;have F2:=Fr.grown (S:=fun i=>i=g) g2 hbk (.inr (.inl I)) I;have hl3:=(HLT.out.G HX).fr F2 (fun e=>gne e.symm);have FF:=FX.trans (F2.mono (S':=XS g gl none) (fun _ h=>.inl h)) (fun _ _ h=>h);have FIN:Hid (xk g gl none ({x with left:=x.left-1},L,[]) w (.returned rI) w2):=J (xk.none ⟨⟨fun _=>⟨HST.out.ips,HST.out.to1,HST.out.to2,HST.out.trl,HST.out.err⟩,fun h=>by
     obtain⟨k1,k2,k3,k4,k5,k6⟩:=HOK.out.go h;have:=HL.out;exact⟨k1,fV,fW,k4,k5,k6⟩⟩,⟨vn,hv,_,_,hb2,fun _=>rfl,fun _=>⟨HVN.out,I,I,fun _=>rfl,fun h=>absurd h hlg⟩⟩⟩ hl3 FF)
   clear hbk hb2 g2 F2 hl3 OV d0 FX FF;exact pY
 rw[if_neg hk1]at HT;have aBl:(e.kind==1)=false:=by simpa using hk1
 obtain⟨M,hM,hMl,_,_,m23,_,_⟩:=(Z.G HX).qat aiO;have LQ:∀V,ao B V->(Instr.loadAt 163 (.pointer (some ⟨g,17,none⟩))).run prog V= .ok (.agg (yf vn x.y).toArray) V:=fun V hV=>(hM.G hV hM.lt).tW 163 17 23 Y _ underlying163 I D7 _ m23
 have LE:∀V,ao B V->(Instr.loadAt 69 (.pointer (some ⟨w.heap.size,0,none⟩))).run prog V= .ok (.agg (vA e).toArray) V:=fun V hV=>(HE.out.G hV HE.out.lt).tW 69 0 22 Y _ underlying69 I MJ _ (uH Y)
 have HLQ:=J LQ;have HLE:=J LE;clear hk1 Z hM m23 LQ LE E0 F HE;generalize yf vn x.y=qs at*;generalize e.kind=kd at*;obtain⟨pp,hpp⟩:=aq (EZ x.y e);rw[hpp.out]at PK HT;generalize vA e=es at*;clear hel rB;go_enter func130,ntmps130;go_wp2_with fail;rw[hw1.out];go_upto_region 6 with fail;go_cut[5,6] (fun v5 v6 wx=>∃gm ds,v5= .pointer (some ⟨gm,0,none⟩)/\v6= .bool pp.2/\N wx gm 169 ds/\sA wx ds pp.1/\ao B wx)
 case first=>
  refine wp_region_held_drew (S:=fun V=>ao B V) (by kernel_rfl) (Below.refl _ _).drew (fun hS=>?_);refine rS hS 5 [0,1,2,3,4] I (by kernel_rfl) (fun _ _ _ _ _ h=>h) I I ?_;repeat(refine ak _ ?_;simp only[X])
  (refine aj _ I I (fun V hV=>(rX 163 (.tmp 17) ⟨g,17,none⟩ I I (HLQ.out V hV))) ?_;simp only[X])
  (refine aj _ I I (fun V hV=>(rX 69 (.tmp 3) ⟨w.heap.size,0,none⟩ I I (HLE.out V hV))) ?_;simp only[X])
  simp only[sS];refine uZ 5 9 (by kernel_rfl) ?_ ?_
  ·
   refine sZ 5 (some 20) 151 #[.agg qs.toArray,.agg es.toArray] I I (by kernel_rfl) bc (PK.out _ (rC HX HX.size hS)) ?_;rintro _ w3 ⟨ds,rfl,hM,b3⟩;have hdl:=hM.len;have hd1:=J hM.one;have hS3:=rC hS hS.size b3;refine⟨_,I,hS3,?_⟩;clear hS b3;have hS:=hS3;clear hS3;simp only[X];refine rS hS 3 [6,7,8] I (by kernel_rfl) (fun _ _ _ _ _ h=>h) I I ?_
   (refine ak (.tuple #[.agg ds.toArray,.bool pp.2]) ?_;simp only[X])
   (refine ak (.agg ds.toArray) ?_;simp only[X])
   (refine ak (.bool pp.2) ?_;simp only[X])
   simp only[sS];have kn:Below w3.heap.size w3 (w3.alloc (.cells sV.toArray 169)):=fZ;have hS4:=rC hS hS.size kn;have hM4:=hM.G kn;have Bz:=N.new w3 169 sV;have hz:B.heap.size<=w3.heap.size:=hS.size;refine Ew 9 (some 5) (by kernel_rfl) I I (by kernel_rfl) (v:=.pointer (some ⟨w3.heap.size,0,none⟩)) (w':=w3.alloc (.cells sV.toArray 169)) (by kernel_rfl) hS4 ?_;simp only[X];clear hS hM kn;have hS:=hS4;clear hS4;generalize w3.alloc (.cells sV.toArray 169)=wz at*;generalize w3.heap.size=gz at*;refine wL 10 none 169 (.tmp 5) (.tmp 21) (by kernel_rfl) I I I (by kernel_rfl) gz 0 I ds I Bz cR cQ hd1.out ?_;intro w8 B8 g8 zs;clear zs;replace B8:N w8 gz 169 ds:=Bj B8 cR;have hM8:=hM4.sD g8 Bz;have hS8:ao B w8:=rE hS g8 hS.size hz;refine⟨hS8,?_⟩;clear hS;have hS:=hS8;simp only[X];refine rS hS 1 [11] I (by kernel_rfl) (fun _ _ _ _ _ h=>h) I I ?_
   (refine ak (.bool pp.2) ?_;simp only[X])
   simp only[sS];refine wpAnyH_done (by kernel_rfl) ?_ _;exact qp
  ·
   have kn:Below B.drew.heap.size B.drew (B.drew.alloc (.cells sV.toArray 169)):=fZ;have hS4:=rC hS hS.size kn;have Bn:=N.new B.drew 169 sV;have hz:B.heap.size<=B.drew.heap.size:=hS.size;refine sx 9 (some 5) (v:=.pointer (some ⟨B.drew.heap.size,0,none⟩)) (w':=B.drew.alloc (.cells sV.toArray 169)) I I (by kernel_rfl) (by kernel_rfl) ?_;refine⟨hS4,?_⟩;clear hS kn;have hS:=hS4;clear hS4;simp only[X];generalize B.drew.alloc (.cells sV.toArray 169)=wy at*;generalize B.drew.heap.size=gz at*;refine su 5 (some 20) 151 #[.agg qs.toArray,.agg es.toArray] (by kernel_rfl) I I (by kernel_rfl) bc (PK.out _ (rC HX HX.size hS)) ?_;rintro _ w3 ⟨ds,rfl,hM4,b3⟩;have hdl:=hM4.len;have hd1:=J hM4.one;have hS3:=rC hS hS.size b3;have Bz:=Bn.G b3 Bn.lt;refine⟨_,I,hS3,?_⟩;clear hS b3 Bn;have hS:=hS3;clear hS3;simp only[X];refine rS hS 3 [6,7,8] I (by kernel_rfl) (fun _ _ _ _ _ h=>h) I I ?_
   (refine ak (.tuple #[.agg ds.toArray,.bool pp.2]) ?_;simp only[X])
   (refine ak (.agg ds.toArray) ?_;simp only[X])
   (refine ak (.bool pp.2) ?_;simp only[X])
   simp only[sS];refine wL 10 none 169 (.tmp 5) (.tmp 21) (by kernel_rfl) I I I (by kernel_rfl) gz 0 I ds I Bz cR cQ hd1.out ?_;intro w8 B8 g8 zs;clear zs;replace B8:N w8 gz 169 ds:=Bj B8 cR;have hM8:=hM4.sD g8 Bz;have hS8:ao B w8:=rE hS g8 hS.size hz;refine⟨hS8,?_⟩;clear hS;have hS:=hS8;simp only[X];refine rS hS 1 [11] I (by kernel_rfl) (fun _ _ _ _ _ h=>h) I I ?_
   (refine ak (.bool pp.2) ?_;simp only[X])
   simp only[sS];refine wpAnyH_done (by kernel_rfl) ?_ _;exact qp
 obtain⟨gm,ds,rfl,rfl,BM,hM5,H5⟩:=hcut;have hdl:=hM5.len;have HB5:=rC HX HX.size H5;have FB:=J (Fr.G (S:=XS g gl none) HB5);have RP:=J (JQ g gl vn x L hv false qs none ds pp.1 _ (HB.out.G HB5) (HLT.out.G HB5) HST.out hdn O hu hd hsn (by simp[hlg]) hM5);have FIN:=J (xk.none (HAT.out.G HB5) (HLT.out.G HB5) FB.out);clear hM5 PK HLQ HLE d0 FX;cases hp2:pp.2 with
 |false=>rw[hp2]at HT;clear RP BM;exact pY
 |true=>rw[hp2]at HT;have HT2:Hid (R=xY x L pp.1):=J (by rw[HT.out];rfl);clear FIN HT;go_wp2_with(refine rF (.load 169 (.tmp 5)) I ?_;go_must(refine rG I _ _ I gm 0 I BM 14 Y _ underlying169 I tn ds (uH Y) ?_));refine RP.out.mono ?_;intro e1 w9 hx;have hx:=hx.back FB.out;obtain⟨v,D',rfl,hx2⟩:=hx;have HX2:=J hx2;clear hx2 hx RP;go_wp2_with fail;go_ret;rw[HT2.out];exact qt
theorem Fr.agS{Hh:Nat}{e:TypeId}{s n:Nat}{xs:List Value}(h:Fr S w w')(ho:w.ownsRow Hh e s v n xs)(hS:∀b,v.ownBlock=some b->¬S b):w'.ownsRow Hh e s v n xs:=by
 obtain⟨h0,ho⟩:=ho;refine⟨h0,?_⟩;rcases ho with ho|⟨g,cap,cur,hv,hB,hg,r⟩
 ·exact .inl ho
 ·exact .inr ⟨g,cap,cur,hv,hB,h.sD (g:=g) (t:=e) (cs:=cur.toList) hg (hS g (by rw[hv];rfl)),r⟩
theorem tf.fr{l:List Ou}(h:tf lo w v l)(k:Fr S w w')(hS:∀b,lo<=b->¬S b):tf lo w' v l:=by
 obtain⟨css,U,F⟩:=h;exact⟨css,k.agS U (fun b Z=>hS b (yw U b Z)),F⟩
theorem tf.aeY{l:List Ou}(h:tf lo w v l){g:Nat}{t:TypeId}{L:List Value}(Z:N w g t L)(ht:t≠106):v.ownBlock≠some g:=by
 intro e;obtain⟨css,U,_⟩:=h;rcases U.2 with⟨hv,_⟩|⟨g',cap,cur,hv,_,hg,_⟩
 ·rw[hv]at e;cases e
 ·rw[hv]at e;injection e with e;have e:g'=g:=e;subst e;exact uU (g:=g') (g':=g') (L':=cur.toList) Z hg ht I
theorem tf.af5{l:List Ou}(h:tf lo w v l)(hg:w.grownBy w' v.ownBlock):Fr (fun i=>v.ownBlock=some i) w w':=by
 obtain⟨css,U,_⟩:=h;rcases U.2 with⟨hv,_⟩|⟨g',cap,cur,hv,_,Z,_⟩
 ·exact pG
 ·subst hv;exact Fr.grown (g:=g') (cs:=cur.toList) hg Z bV I
theorem JR{α:Type}{R:List Value->α->Prop}:∀{a b:List (List Value)} {l m:List α},wO R a l->wO R b m->wO R (a++b) (l++m)
 |[],_,[],_,_,h=>h
 |_::_,_,_::_,_,h,k=>⟨h.1,JR h.2 k⟩
theorem OA:∀{css:List (List Value)} {l:List Ou},wO OuI css l->css.flatten.length=l.length*21/\∀u∈css.flatten,u.oneCell'=true
 |[],[],_=>⟨I,ar⟩
 |cs::css,o::l,h=>by
  obtain⟨U,F⟩:=OA h.2;refine⟨?_,fun u hu=>?_⟩
  ·simp only[List.flatten_cons,List.length_append,List.length_cons,U,h.1.len];omega
  ·
   rcases List.mem_append.1 hu with hu|hu
   ·rw[h.1.1]at hu;exact acR u hu
   ·exact F u hu
theorem uw(w:World){hb:Exit->Act->World->Prop}(hgd:o.guard=none)(s x:Operand)
  (ho:o.op= .call {callee:=.builtin .append,args:= #[s,x],argTypes:= #[43,43]}) {lo lo2:Nat} {v1 v2:Value} {o1 o2:List Ou} (hs:a.eval s=v1) (hx:a.eval x=v2) (U:tf lo w v1 o1) (F:tf lo2 w v2 o2) (rH:lo<=w.heap.size) (E:o1.length+o2.length<=100000)
  (h:∀v' w',tf lo w' v' (o1++o2)->Fr (fun i=>v1.ownBlock=some i) w w'->wpList prog ops hb rest (a.put o.dst v') w'):wpList prog ops hb (o::rest) a w:=by
 have H1:=U;obtain⟨awd,B,e1⟩:=U;obtain⟨anV,w2,e2⟩:=F;obtain⟨l1,_⟩:=OA e1;obtain⟨l2,n2⟩:=OA e2;obtain⟨A2,c2,rfl⟩:=tp w2;refine uR w hgd s x 43 ho 106 (.agg ouZ.toArray) 21 64 underlying43 VD (by kernel_rfl) K lo v1 o1.length awd.flatten hs B rH A2 o2.length c2 anV.flatten hx (fun hp=>?_) l2 n2 aL Y _ I ?_
 ·
  obtain⟨g,L,hA,Z,hL,_⟩:=wU w2 hp l2;refine⟨g,0,hA,fun j v hv=>?_⟩;rw[Nat.zero_add];refine Z.rD j ?_;rw[<-hL]at hv;rw[List.getElem?_take]at hv;split at hv
  ·exact hv
  ·cases hv
 ·intro A' c' w' ho' hg;refine h _ w' ⟨awd++anV,?_,JR e1 e2⟩ (H1.af5 hg);rw[List.flatten_append,List.length_append];exact ho'
theorem wQ.aa1{g:Nat}{d:Dl}(h:wQ w g d):∃L,N w g 243 L:=by
 obtain⟨p,hJ,_⟩:=h;obtain⟨vn,L,ds,Z,_⟩:=hJ.sD;exact⟨L,Z⟩
theorem tJ.fr{g:Nat}{D:Option Nat}{x:Xc}(h:tJ w g gl D x)(k:Fr S w w')(hg:¬S g)(hD:∀i L,D=some i->N w i 243 L->¬S i):tJ w' g gl D x:=by
 obtain⟨ok,vn,hs,eb,qs,Z,U,F⟩:=h;refine⟨ok,vn,hs,eb,qs,Z.fr k hg,U,fun hd=>?_⟩;obtain⟨a,b,c,d,e⟩:=F hd;refine⟨a,b,c,d,fun E=>?_⟩;obtain⟨gd,hgd,hA⟩:=e E;obtain⟨L,hL⟩:=hA.aa1;exact⟨gd,hgd,hA.fr k (hD gd L hgd hL)⟩
theorem xk.Ce{g:Nat}{D D':Option Nat}{r:XR}{o:List Ou}{v1 v':Value}(hx:tJ B g gl D' r.1)(E:sE B gl r.2.1)(k:Fr (XS g gl D) w B)(hD:∀i,D'=some i->D=some i\/w.heap.size<=i)(U:tf lo B v1 o)(rH:w.heap.size<=lo)(hv:tf lo w' v' (o++r.2.2))(f:Fr (fun i=>v1.ownBlock=some i) B w'):xk g gl D (JJ o r) w (.returned v') w':=by
 obtain⟨Lg,hLg⟩:=hx.sD;obtain⟨Ll,hLl⟩:=vj E;refine⟨v',D',I,hv.mono rH,hx.fr f (U.aeY hLg K) (fun i L hi Z=>U.aeY Z K),E.fr f (U.aeY hLl K),k.trans f (fun i hi h=>?_),hD⟩;obtain⟨css,ho,_⟩:=U;have:=yw ho i h;omega
theorem aa2(d:Dl)(e:Ev):(te d e).1.st=d.st\/(te d e).1.st=1\/(te d e).1.st=2:=by
 unfold te
 (repeat' split)<;>simp
theorem JS(g gl:Nat)(D:Option Nat)(x:Xc)(L:Lt)(e:Ev)(w:World)(h:tJ w g gl D x)(E:sE w gl L)(hdn:x.done=false)(hlg:x.lg=2)(rB:e.fr.ip.length=16)(hs:x.d.ty.length+e.data.length<=8796093022208)(hu:L.us<=999999990)(hd:L.ds.length<=17592186044416)(hsn:x.r6<=1000000):
  Calls prog 128 #[.pointer (some ⟨g,0,none⟩),.agg (vA e).toArray] w (xk g gl D (sK x L e) w):=by
 obtain⟨R,hR⟩:=aq (sK x L e);rw[hR.out];have HT:Hid (R=if e.kind=1 then(if x.left<=1 then JJ (wg x.d).2 (vD {x with left:=x.left-1,d:=(wg x.d).1} L)else({x with left:=x.left-1},L,[]))
  else if(te x.d e).1.st=1 then JJ (te x.d e).2 (xY {x with d:=(te x.d e).1} L (te x.d e).1.xZ)
  else if(te x.d e).1.st=2 then JJ (te x.d e).2 (vD {x with d:=(te x.d e).1} L)
  else({x with d:=(te x.d e).1},L,(te x.d e).2)):=J (by rw[<-hR.out];unfold sK;rw[if_neg dI,if_pos hlg])
 obtain⟨ok,vn,hv,eb,qs,Z,-,F⟩:=h;obtain⟨O,hl1,hl2,hyq,ara,hdo⟩:=ok.go hdn;obtain⟨hds,hdy,hdk⟩:=hdo hlg;have hst:=ok.st hdn;obtain⟨hhv,heb,hqs,-,hDD⟩:=F hdn;obtain⟨gd,hD,hDA⟩:=hDD hlg;subst hD;subst heb;subst hqs;obtain⟨lcs,hlc⟩:=vj E;obtain⟨M,vt,ds0,hbk,hMl,_,_,_,_,_,_,_,_,_,_,c41,_⟩:=Z.cells;have gne:=uU hbk hlc K;obtain⟨Ld,hLd⟩:=hDA.aa1;have gnd:=uU hbk hLd K;have lnd:=uU hlc hLd K;have ajB:=hbk.lt;have aL6:=hLd.lt;have aLr:=hlc.lt;have hel:=yX rB;have E0:(vA e)[0]?=some (.int .i64 e.kind):=rfl;have HB:=J Z;have HLT:=J E;have HST:=J hst;have HOK:=J ok;have HDA:=J hDA;have HHV:=J hhv;have hto:x.left<=30:=Int.le_trans hl2 hst.to2;have HX:Below w.heap.size w (w.alloc (.cells (vA e).toArray 69)):=fZ;have h2:=N.new w 69 (vA e);have d0:=h2.rD 0 E0;have HE:=J h2;have HBK:=J hbk;have hnd:=J (Ms x.d e);have hng:=J (Mt x.d);clear E hst ok hR h2 hlc hLd hDA hbk F hDD;obtain⟨B,hw1⟩:=aq (w.alloc (.cells (vA e).toArray 69));rw[hw1.out]at HX HE;have FX:Fr (XS g gl (some gd)) w B:=Fr.G HX;by_cases hk1:e.kind=1
 case pos=>
  rw[if_pos hk1]at HT;have OV:=J (Rp g gl vn x hv x.vI (yf vn x.y) (some gd) B (Z.G HX) hl1 hto);unfold VM at OV;rw[hk1]at d0;clear hk1 HE Z E0;by_cases hl0:x.left<=1
  case pos=>
   rw[if_pos hl0]at HT;rw[show decide (x.left-1<=0)=true by simp;omega]at OV;clear hl0 hnd;generalize vA e=es at*;go_enter func128,ntmps128;go_wp2_with fail;rw[hw1.out];refine OV.out.mono ?_;rintro _ w2 ⟨rfl,hb2,g2⟩;have F2:=Fr.grown (S:=fun i=>i=g) g2 (HBK.out.G HX ajB) (.inr (.inl I)) I;have hl3:=(HLT.out.G HX).fr F2 (fun e=>gne e.symm);have hD3:=(HDA.out.G HX).fr F2 (fun e=>gnd e.symm);have FF:=FX.trans (F2.mono (S':=XS g gl (some gd)) (fun _ h=>.inl h)) (fun _ _ h=>h);obtain⟨_,_,_,avs,_,_,_,_,_,_,_,_,_,_,_,awe,_⟩:=hb2.cells;have d41:=avs.rD 41 awe;unfold Dw at d41;have HG:=J (aaD gd x.d w2 hD3);obtain⟨Ld2,avN⟩:=hD3.aa1;clear OV avs awe d0 FX F2 g2;go_wp2_with fail;refine HG.out.mono ?_;rintro _ w3 ⟨v1,rfl,hO1,aCm,g3⟩;have F3:=Fr.grown (S:=fun i=>i=gd) g3 avN (.inl I) I;have hb3:=hb2.fr F3 gnd;have hl4:=hl3.fr F3 lnd;have rH:w.heap.size<=w2.heap.size:=FF.size;have NX:=J (CP g gl vn {x with left:=x.left-1,d:=(wg x.d).1} L hv x.vI (yf vn x.y) (some gd) w3 ⟨hb3.b,hb3.nm,hb3.ql⟩ hl4 ⟨HST.out.ips,HST.out.to1,HST.out.to2,HST.out.trl,HST.out.err⟩ hdn O hu hd hsn);have FG:=FF.trans (F3.mono (S':=XS g gl (some gd)) (fun i h=>.inr (.inr (by rw[h])))) (fun _ _ h=>h);have nxl:(vD {x with left:=x.left-1,d:=(wg x.d).1} L).2.2.length<=1:=AS _ _;have aLd:=hng.out;have aAB:w2.heap.size<=w3.heap.size:=F3.size;have HR2:Hid (R=JJ (wg x.d).2 (vD {x with left:=x.left-1,d:=(wg x.d).1} L)):=HT;clear HG hb2 hl3 hD3 g3 F3 hb3 hl4 aCm d41 HT avN hng;generalize vD {x with left:=x.left-1,d:=(wg x.d).1} L=r at*;go_wp2_with fail;refine NX.out.mono ?_;rintro _ w9 ⟨v2,D',rfl,hO2,hA9,hL9,hf9,hD9⟩;have O9:=hO1.fr hf9 (fun b Z h=>by
    rcases h with h|h|h
    ·have:=FF.size;have:=ajB;omega
    ·have:=FF.size;omega
    ·
     injection h with h;have:=FF.size;omega)
   have F9:=FG.trans hf9 (fun _ _ h=>h);replace hD9:∀i,D'=some i->some gd=some i\/w.heap.size<=i:=iN;have hO9:=hO2;have auv:w3.heap.size<=w9.heap.size:=hf9.size;clear NX hO1 hO2 hf9 FF FG;go_wp2_with(at_builtin;go_must(refine uw _ I (.tmp 17) (.tmp 19) I I I O9 hO9 Y Y ?_));exact nO
  case neg=>
   rw[if_neg hl0]at HT;rw[show decide (x.left-1<=0)=false by simp;omega]at OV;have HL:=J hl0;clear hl0 hnd hng;generalize vA e=es at*;go_enter func128,ntmps128;go_wp2_with fail;rw[hw1.out];refine OV.out.mono ?_;rintro _ w2 ⟨rfl,hb2,g2⟩;have F2:=Fr.grown (S:=fun i=>i=g) g2 (HBK.out.G HX ajB) (.inr (.inl I)) I;have hl3:=(HLT.out.G HX).fr F2 (fun e=>gne e.symm);have hD3:=(HDA.out.G HX).fr F2 (fun e=>gnd e.symm);have FF:=FX.trans (F2.mono (S':=XS g gl (some gd)) (fun _ h=>.inl h)) (fun _ _ h=>h);have FIN:Hid (xk g gl (some gd) ({x with left:=x.left-1},L,[]) w (.returned rI) w2):=J (xk.none ⟨⟨fun _=>⟨HST.out.ips,HST.out.to1,HST.out.to2,HST.out.trl,HST.out.err⟩,fun h=>by
     obtain⟨k1,k2,k3,k4,k5,k6⟩:=HOK.out.go h;have:=HL.out;exact⟨k1,fV,fW,k4,k5,k6⟩⟩,⟨vn,hv,_,_,hb2,fun h=>absurd (show x.done=true from h) dI,fun _=>⟨HHV.out,I,I,fun h=>absurd hlg h,fun _=>⟨gd,I,hD3⟩⟩⟩⟩ hl3 FF)
   clear hb2 g2 F2 hl3 hD3 OV d0 FX FF;exact pY
 rw[if_neg hk1]at HT;have aBl:(e.kind==1)=false:=by simpa using hk1
 have LE:∀V,N V w.heap.size 69 (vA e)->(Instr.loadAt 69 (.pointer (some ⟨w.heap.size,0,none⟩))).run prog V= .ok (.agg (vA e).toArray) V:=fun V hV=>hV.tW 69 0 22 Y _ underlying69 I MJ _ (uH Y)
 have HLE:=J LE;have HC:=J (fun V (hV:ao w V)=>aaH gd x.d e V (HDA.out.G hV) rB hs);have dy:=acQ x.d e;have dk:=aaw x.d e hdk;have DY:=J (And.intro dy dk);unfold Ik at HC;clear hk1 LE E0 Z hng dy dk;obtain⟨rd,hrd⟩:=aq (te x.d e);rw[hrd.out]at HC HT hnd DY;generalize e.kind=kd at*;generalize vA e=es at*;clear hel rB hs;have B41:N B.drew g 173 M:=(HBK.out.G HX ajB).drew;unfold Dw at c41;have C41:=J c41;have hS0:(Instr.loadAt 164 (.pointer (some ⟨g,41,none⟩))).run prog B.drew= .ok (.pointer (some ⟨gd,0,none⟩)) B.drew/\N B.drew w.heap.size 69 es:=⟨rQ underlying164 I (B41.rD 41 c41),HE.out.drew⟩;clear c41;go_enter func128,ntmps128;go_wp2_with fail;rw[hw1.out];refine wp_region_held_drew (S:=fun V=>(Instr.loadAt 164 (.pointer (some ⟨g,41,none⟩))).run prog V= .ok (.pointer (some ⟨gd,0,none⟩)) V/\N V w.heap.size 69 es) (by kernel_rfl) hS0 (fun hS=>?_);refine rS hS 5 [0,1,2,3,4] I (by kernel_rfl) (fun _ _ _ _ _ h=>h) I I ?_;repeat(refine ak _ ?_;simp only[X])
 (refine aj _ I I (fun V hV=>(rX 164 (.tmp 23) ⟨g,41,none⟩ I I hV.1)) ?_;simp only[X])
 (refine aj _ I I (fun V hV=>(rX 69 (.tmp 3) ⟨w.heap.size,0,none⟩ I I (HLE.out V hV.2))) ?_;simp only[X])
 simp only[sS];have hWd:Below w.heap.size w B.drew:=HX.drew;obtain⟨Ld1,avO⟩:=(HDA.out.G hWd).aa1;refine su 5 (some 26) 145 #[.pointer (some ⟨gd,0,none⟩),.agg es.toArray] (by kernel_rfl) I I (by kernel_rfl) bc (HC.out _ hWd) ?_;rintro _ w3 ⟨v1,rfl,hO1,hD3,g3⟩;have aEp:=B41.grown g3 (by intro e;injection e with e;exact gnd e);have BE3:=hS.2.grown g3 (by intro e;injection e with e;omega);have d41:=aEp.rD 41 C41.out;have hS3:(Instr.loadAt 164 (.pointer (some ⟨g,41,none⟩))).run prog w3= .ok (.pointer (some ⟨gd,0,none⟩)) w3/\N w3 w.heap.size 69 es:=⟨rQ underlying164 I d41,BE3⟩;refine⟨_,I,hS3,?_⟩;have F3:=Fr.grown (S:=fun i=>i=gd) g3 avO (.inl I) I;have hb3:=((HB.out.G hWd)).fr F3 gnd;have hl3:=(HLT.out.G hWd).fr F3 lnd;have rH:w.heap.size<=B.drew.heap.size:=hWd.size;have aAB:B.drew.heap.size<=w3.heap.size:=F3.size;have FG:Fr (XS g gl (some gd)) w w3:=(Fr.G (S:=XS g gl (some gd)) hWd).trans (F3.mono (S':=XS g gl (some gd)) (fun i h=>.inr (.inr (by rw[h])))) (fun _ _ h=>h);have DS:=J (Uo gd rd.1 w3 hD3);have HD3:=J hD3;have HB3:=J hb3;have HL3:=J hl3;have HO1:=J hO1;have HFG:=J FG;clear g3 avO B41 BE3 hS hS0 HC F3 hb3 hl3 hD3 hO1 FG;have hS:=hS3;simp only[X];refine rS hS 1 [6] I (by kernel_rfl) (fun _ _ _ _ _ h=>h) I I ?_
 (refine ak v1 ?_;simp only[X])
 simp only[sS];refine wpAnyH_done (by kernel_rfl) ?_ _;clear hS hS3;go_wp2_with fail;refine DS.out.mono ?_;rintro _ w3' ⟨rfl,rfl⟩;clear DS;have STX:({x with d:=rd.1}:Xc).st:=⟨HST.out.ips,HST.out.to1,HST.out.to2,HST.out.trl,HST.out.err⟩;have asy:=J STX;have XB3:ue w3 g gl vn {x with d:=rd.1} hv x.vI (yf vn x.y) (some gd):=⟨HB3.out.b,HB3.out.nm,HB3.out.ql⟩;have apI:=J XB3;clear STX XB3;have aML:=hnd.out;by_cases s1:rd.1.st=1
 case pos=>
  have HR2:Hid (R=JJ rd.2 (xY {x with d:=rd.1} L rd.1.xZ)):=J (by rw[HT.out,if_pos s1]);rw[s1];have DM:=J (aaA gd rd.1 w3 HD3.out);unfold aaz at DM;clear HT s1;go_wp2_with fail;refine DM.out.mono ?_;rintro _ w4 ⟨ds,rfl,hM4,b4⟩;have RP:=J (JQ g gl vn {x with d:=rd.1} L hv true (yf vn x.y) (some gd) ds rd.1.xZ w4 (apI.out.G b4) (HL3.out.G b4) asy.out hdn O hu hd hsn (by simp[hlg]) hM4);have O4:=HO1.out.G b4;have HO4:=J O4;have F4:=HFG.out.trans (Fr.G (S:=XS g gl (some gd)) b4) (fun _ _ h=>h);have HF4:=J F4;have aKM:w3.heap.size<=w4.heap.size:=b4.size;have nxl:(xY {x with d:=rd.1} L rd.1.xZ).2.2.length<=1:=Gl _ _ _;clear DM hM4 b4 O4 F4 d41;generalize xY {x with d:=rd.1} L rd.1.xZ=r at*;go_wp2_with fail;refine RP.out.mono ?_;rintro _ w9 ⟨v2,D',rfl,hO2,hA9,hL9,hf9,hD9⟩;have O9:=HO4.out.fr hf9 (fun b Z h=>by
   rcases h with h|h|h
   ·omega
   ·omega
   ·
    injection h with h;omega)
  have F9:=HF4.out.trans hf9 (fun _ _ h=>h);replace hD9:∀i,D'=some i->some gd=some i\/w.heap.size<=i:=iN;have hO9:=hO2;have auv:w4.heap.size<=w9.heap.size:=hf9.size;clear RP hO2 hf9;go_wp2_with(at_builtin;go_must(refine uw _ I (.tmp 34) (.tmp 41) I I I O9 hO9 Y Y ?_));exact nO
 have s1':(rd.1.st==1)=false:=by simpa using s1
 by_cases s2:rd.1.st=2
 case pos=>
  have HR2:Hid (R=JJ rd.2 (vD {x with d:=rd.1} L)):=J (by rw[HT.out,if_neg s1,if_pos s2]);have NX:=J (CP g gl vn {x with d:=rd.1} L hv x.vI (yf vn x.y) (some gd) w3 apI.out HL3.out asy.out hdn O hu hd hsn);have nxl:(vD {x with d:=rd.1} L).2.2.length<=1:=AS _ _;rw[s2];clear HT s1 s1' s2 d41;generalize vD {x with d:=rd.1} L=r at*;go_wp2_with fail;refine NX.out.mono ?_;rintro _ w9 ⟨v2,D',rfl,hO2,hA9,hL9,hf9,hD9⟩;have O9:=HO1.out.fr hf9 (fun b Z h=>by
   rcases h with h|h|h
   ·omega
   ·omega
   ·
    injection h with h;omega)
  have F9:=HFG.out.trans hf9 (fun _ _ h=>h);replace hD9:∀i,D'=some i->some gd=some i\/w.heap.size<=i:=iN;have hO9:=hO2;have auv:w3.heap.size<=w9.heap.size:=hf9.size;clear NX hO2 hf9;go_wp2_with(at_builtin;go_must(refine uw _ I (.tmp 45) (.tmp 47) I I I O9 hO9 Y Y ?_));exact nO
 have s2':(rd.1.st==2)=false:=by simpa using s2
 have HR2:Hid (R=({x with d:=rd.1},L,rd.2)):=J (by rw[HT.out,if_neg s1,if_neg s2]);have FIN:Hid (xk g gl (some gd) ({x with d:=rd.1},L,rd.2) w (.returned v1) w3):=J (by
  have h0:rd.1.st=0:=by
   rcases aa2 x.d e with h|h|h
   ·rw[hrd.out]at h;exact h.trans hds
   ·rw[hrd.out]at h;exact absurd h s1
   ·rw[hrd.out]at h;exact absurd h s2
  refine⟨v1,some gd,I,HO1.out.mono rH,⟨⟨fun _=>asy.out,fun h=>?_⟩,⟨vn,hv,_,_,apI.out,fun h=>?_,fun h=>?_⟩⟩,HL3.out,HFG.out,fun i hi=>.inl hi⟩
  ·obtain⟨k1,k2,k3,k4,k5,k6⟩:=HOK.out.go h;exact⟨k1,k2,k3,k4,k5,fun E=>⟨h0,DY.out.1.trans hdy,DY.out.2⟩⟩
  ·rw[show x.done=true from h]at hdn;cases hdn
  ·
   exact⟨HHV.out,I,I,fun h=>absurd hlg h,fun _=>⟨gd,I,HD3.out⟩⟩)
 clear HT s1 s2 HD3 HB3 apI HL3 HO1 HFG d41;generalize rd.1.st=st at*;exact oL
theorem zw{P:Program}{hb:Exit->Act->World->Prop}(hw:Region.wanted o (yielded ops a.tmps)=true)(hx:(execOp a.eval o).run P w= .ok (.value v) w)(h:wpList P ops hb rest (a.put o.dst v) w):wpList P ops hb (o::rest) a w:=by
 unfold wpList;rw[if_pos hw];left;unfold Oper.wp;rw[hx];exact h
theorem UB{x:Xc}(h:x.done=true)(L:Lt)(e:Ev):sK x L e=(x,L,[]):=by unfold sK;rw[if_pos h]
theorem XT(g gl:Nat)(D:Option Nat)(x:Xc)(L:Lt)(e:Ev)(w:World)(h:tJ w g gl D x)(E:sE w gl L)(rB:e.fr.ip.length=16)(hs:x.d.ty.length+e.data.length<=8796093022208)(hu:L.us<=999999990)(hd:L.ds.length<=17592186044416)(hsn:x.r6<=1000000):
  Calls prog 78 #[.pointer (some ⟨g,0,none⟩),.agg (vA e).toArray] w (xk g gl D (sK x L e) w):=by
 obtain⟨R,hR⟩:=aq (sK x L e);rw[hR.out];have hel:=yX rB;have HX:Below w.heap.size w (w.alloc (.cells (vA e).toArray 69)):=fZ;have h2:=N.new w 69 (vA e);have HAT:=Lib.hid h;have HLT:=J E;obtain⟨ok,vn,hv,eb,qs,Z,U,F⟩:=h;obtain⟨M,vt,ds0,hbk,hMl,_,_,_,_,_,_,_,c16,_,_,_,_,_,_,c45,_⟩:=Z.cells;have ajB:=hbk.lt;have HBK:=J hbk;have d16:=(hbk.G HX ajB).rD 16 c16;have d45:=(hbk.G HX ajB).rD 45 c45;have C16:=J c16;cases hdn:x.done with
 |true=>rw[hdn]at d45;have HR2:Hid (R=(x,L,[])):=J (by rw[<-hR.out,UB hdn]);have FIN:=J (xk.none (HAT.out.G HX) (HLT.out.G HX) (Fr.G (S:=XS g gl D) HX));clear F hR E Z hbk c16 c45 h2 U ok d16;generalize vA e=es at*;go_enter func78,ntmps78;exact oL
 |false=>
 rw[hdn]at d45;obtain⟨hhv,_⟩:=F hdn;obtain⟨f,hf,CF,CL⟩:∃f,hv= .func (.func f) #[] #[]/\Hid (∀V a b,(callFunc f #[a,b]).run prog V= .ok (.enter f #[a,b]) V)/\Hid (∀V,ao w V->Calls prog f #[.pointer (some ⟨g,0,none⟩),.agg (vA e).toArray] V (xk g gl D R V)):=by
  rw[<-hR.out];unfold UA at hhv;by_cases hlg:x.lg=2
  ·rw[if_pos hlg]at hhv;exact⟨_,hhv,J (fun V a b=>by kernel_rfl),J (fun V hV=>JS g gl D x L e V (HAT.out.G hV) (E.G hV) hdn hlg rB hs hu hd hsn)⟩
  ·rw[if_neg hlg]at hhv;exact⟨_,hhv,J (fun V a b=>by kernel_rfl),J (fun V hV=>Oy g gl D x L e V (HAT.out.G hV) (E.G hV) hdn hlg rB aL hu hd hsn)⟩
 rw[hf]at d16 C16;have HE:=J h2;have LE:Hid (∀V,N V w.heap.size 69 (vA e)->(Instr.loadAt 69 (.pointer (some ⟨w.heap.size,0,none⟩))).run prog V= .ok (.agg (vA e).toArray) V):=J (fun V hV=>hV.tW 69 0 22 Y _ underlying69 I MJ _ (uH Y));clear F hR E Z hbk c16 c45 h2 U ok hhv HAT rB hs hel hdn;generalize vA e=es at*;obtain⟨B,hw1⟩:=aq (w.alloc (.cells es.toArray 69));rw[hw1.out]at HX HE;go_enter func78,ntmps78;go_wp2_with(refine rF (.binOp .eql 161 (.tmp 17) (.const .nilFunc) 161) I ?_;go_must(refine zw (v:=.bool false) bc (by kernel_rfl) ?_));rw[hw1.out];have hWd:Below w.heap.size w B.drew:=HX.drew;have hS0:(Instr.loadAt 161 (.pointer (some ⟨g,16,none⟩))).run prog B.drew= .ok (.func (.func f) #[] #[]) B.drew/\(Instr.loadAt 69 (.pointer (some ⟨w.heap.size,0,none⟩))).run prog B.drew= .ok (.agg es.toArray) B.drew:=⟨rQ underlying161 I ((HBK.out.G hWd ajB).rD 16 C16.out),LE.out _ HE.out.drew⟩;obtain⟨hS1,hS2⟩:=hS0;have CC:=J (CL.out _ hWd);have FW:=J (Fr.G (S:=XS g gl D) hWd);have H1:=J hS1;have H2:=J hS2;clear hS1 hS2 CL LE HE HBK C16 HX d16 d45 HLT;refine wp_region_held_drew (S:=fun _=>True) (by kernel_rfl) trivial (fun hS=>?_);refine rS hS 4 [0,1,2,4] I (by kernel_rfl) (fun _ _ _ _ _ h=>h) I I ?_;repeat(refine ak _ ?_;simp only[X])
 simp only[sS];refine uZ 3 5 (by kernel_rfl) ?_ ?_
 ·
  refine uj 3 (some 23) 161 (.tmp 22) ⟨g,16,none⟩ I I I I (by kernel_rfl) H1.out ?_;refine⟨trivial,?_⟩;simp only[X];refine rV 5 (by kernel_rfl) ?_;refine uj 5 (some 25) 69 (.tmp 3) ⟨w.heap.size,0,none⟩ I I I I (by kernel_rfl) H2.out ?_;refine⟨trivial,?_⟩;simp only[X];refine rV 6 (by kernel_rfl) ?_;refine sZ 6 (some 26) f #[.pointer (some ⟨g,0,none⟩),.agg es.toArray] I I (by kernel_rfl) dJ CC.out ?_;intro e9 w9 hx;have hx:=hx.back FW.out;obtain⟨v,D',rfl,hx2⟩:=hx;have HX2:=J hx2;clear hx hx2;refine⟨_,I,trivial,?_⟩;simp only[X];refine rS hS 1 [7] I (by kernel_rfl) (fun _ _ _ _ _ h=>h) I I ?_
  (refine ak v ?_;simp only[X])
  simp only[sS];refine wpAnyH_done (by kernel_rfl) ?_ _;go_wp2_with fail;go_ret;exact qt
 ·
  refine uj 5 (some 25) 69 (.tmp 3) ⟨w.heap.size,0,none⟩ I I I I (by kernel_rfl) H2.out ?_;refine⟨trivial,?_⟩;simp only[X];refine rV 3 (by kernel_rfl) ?_;refine uj 3 (some 23) 161 (.tmp 22) ⟨g,16,none⟩ I I I I (by kernel_rfl) H1.out ?_;refine⟨trivial,?_⟩;simp only[X];refine rV 6 (by kernel_rfl) ?_;refine sZ 6 (some 26) f #[.pointer (some ⟨g,0,none⟩),.agg es.toArray] I I (by kernel_rfl) dJ CC.out ?_;intro e9 w9 hx;have hx:=hx.back FW.out;obtain⟨v,D',rfl,hx2⟩:=hx;have HX2:=J hx2;clear hx hx2;refine⟨_,I,trivial,?_⟩;simp only[X];refine rS hS 1 [7] I (by kernel_rfl) (fun _ _ _ _ _ h=>h) I I ?_
  (refine ak v ?_;simp only[X])
  simp only[sS];refine wpAnyH_done (by kernel_rfl) ?_ _;go_wp2_with fail;go_ret;exact qt
def aa3(vd:Int)(m:tq)(w:World)(e:Ending)(w':World):Prop:=∃ds,e= .returned (.agg (Value.int .i64 vd::ds).toArray)/\sA w' ds m/\ao w w'
theorem Rt(g gl:Nat)(D:Option Nat)(x:Xc)(w:World)(h:tJ w g gl D x):Calls prog 106 #[.pointer (some ⟨g,0,none⟩)] w (aa3 x.vd x.xZ w):=by
 obtain⟨ok,vn,hv,eb,qs,Z,-,-⟩:=h;obtain⟨M,vt,ds,hbk,hMl,_,_,_,_,_,_,_,_,_,_,_,_,_,_,_,c46,_,hM⟩:=Z.cells;have hdl:=hM.len;have hO1:∀v∈(Value.int .i64 x.vd::ds:List Value),v.oneCell'=true:=by exact qv
 have arx:(Value.int .i64 x.vd::ds:List Value).length=15:=jI;have HM:=J hM;have ajB:=hbk.lt;clear Z ok hM;generalize x.xZ=m,x.vd=vd at*;obtain⟨agB,hO⟩:=aq (Value.int .i64 vd::ds);rw[hO.out]at c46 hO1 arx;have HX:Below w.heap.size w (w.alloc (.cells (Value.int .i64 0::sV).toArray 171)):=fZ;have BZ:=N.new w 171 (Value.int .i64 0::sV);have zl0:(Value.int .i64 0::sV:List Value).length=15:=jZ;have BX:=hbk.G HX ajB;go_enter func106,ntmps106;go_wp2_with(first
  |(refine rF (.load 171 (.tmp 8)) rfl ?_;go_must(refine rG rfl _ _ rfl g 46 rfl BX 15 Y _ underlying171 rfl zv agB c46 ?_))
  |(refine rF (.store 171 (.tmp 2) (.tmp 9)) rfl (ab rfl w.heap.size 0 agB BZ (by rw[arx,zl0];decide) dK hO1 ?_)))
 intro w2 B2 g2 sw;clear sw;replace B2:=tH (L:=agB) B2 cR;have H2:=rE HX g2 HX.size (Nat.le_refl _);have FIN:Hid (aa3 vd m w (.returned (.agg agB.toArray)) w2):=J ⟨ds,by rw[hO.out],HM.out.G H2,H2⟩;clear BX BZ HX g2 H2 hO HM c46;go_wp2_with fail;refine tx I w.heap.size I B2 _ underlying171 I dK I ?_;exact FIN.out
end Go.Proofs.YtakkipnmpmobbaaGreat
