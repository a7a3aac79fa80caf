/-
  Layer 29 (xchg):what a call on an exchange leaves;send.
-/
import Derived.Test.YthnbcmlnpdabhaaGreatIGq
namespace Go.Proofs.YthnbcmlnpdabhaaGreat
open _root_.Go.Proofs.Tryz
set_option maxHeartbeats 8000000
open Go.RowKit
set_option maxRecDepth 100000
set_option linter.unusedVariables false
set_option linter.unusedSimpArgs false
variable {w w' w1:World} {gl lo:Nat} {vn v:Value} {eb:Bool} {S:Nat->Prop} {e:Ending} {ops:Array Oper} {rest:List Oper} {o:Oper} {a:Act}
def Qx(lg:Nat):Value:=if lg=2 then .func (.func 190) #[] #[]else .func (.func 191) #[] #[]
structure yh (w:World) (g gl:Nat) (D:Option Nat) (x:Xc):Prop where
 ok:x.ok
 b:∃vn hs eb qs,xo w g gl vn x hs eb qs D/\(x.done=true->D=none)/\(x.done=false->hs=Qx x.lg/\eb=x.yB/\qs=xY vn x.y/\(x.lg≠2->D=none)/\(x.lg=2->∃gd,D=some gd/\zg w gd x.d))
def XS(g gl:Nat)(D:Option Nat)(i:Nat):Prop:=i=g\/i=gl\/D=some i
def zy(g gl:Nat)(D:Option Nat)(r:XR)(w:World)(e:Ending)(w':World):Prop:=∃v D',e= .returned v/\vJ w.heap.size w' v r.2.2/\yh w' g gl D' r.1/\yn w' gl r.2.1/\Fr (XS g gl D) w w'/\∀i,D'=some i->D=some i\/w.heap.size<=i
theorem aa4{x:Xc}{L:Lt}{lg:Nat}(h:lg≠2):ym x L lg=({x with y:=yz x L,lg:=lg,left:=x.cl,uV:=x.uV+1},Hu L,[⟨1,(yz x L).sv,(yz x L).port,(vN (vW x.q (yz x L).id (decide (lg=0)&&x.ed)) false).1⟩]):=if_neg h
theorem KK(x:Xc)(L:Lt):0<=(yz x L).id/\(yz x L).id<=65535/\(yz x L).q=x.q/\(yz x L).sv=x.tr.getD x.k vG.zero:=by
 obtain⟨U,X⟩:=Gm (xG L 64512).2 (show(0:Int)<65536 by decide);exact⟨U,by show(xG (xG L 64512).2 65536).1<=65535;omega,J,J⟩
theorem Xc.st.leg{x:Xc}(h:x.st)(L:Lt)(lg:Nat):(ym x L lg).1.st:=by
 unfold ym;split<;>exact⟨h.ips,h.to1,h.to2,h.trl,h.err⟩
theorem WK{l:List vG}(h:∀a∈l,a.ip.length=16)(k:Nat):(l.getD k vG.zero).ip.length=16:=by
 rw[List.getD_eq_getElem?_getD];cases z:l[k]? with
 |none=>rfl
 |some a=>exact h a (List.mem_of_getElem? z)
theorem xo.qat{g:Nat}{x:Xc}{hs:Value}{y:Qy}{dp:Option Nat}(h:xo w g gl vn x hs eb (xY vn y) dp)(h2:y.sv.ip.length=16):∃ul,F w g 177 ul/\ul.length=61/\(ul.drop 10).take 3=qC vn x.q/\(ul.drop 17).take 18=y.sv.cells/\(ul.drop 17).take 23=xY vn y/\ul[35]?=some (.int .i64 y.port)/\ul[36]?=some (.int .i64 y.id):=by
 obtain⟨T,vt,ds,Z,U,_,_,_,_,h6⟩:=h.b;have hq:=h.ql;have e23:=afl (vn:=vn) (q:=x.q) (vt:=vt) (gl:=gl) (k:=x.k) (hs:=hs) (eb:=eb) (dp:=dp) (left:=x.left) (uV:=x.uV) (hard:=x.hard) (done:=x.done) (vd:=x.vd) (ds:=ds) U hq;refine⟨_,Z,by rw[Ca U hq,h6.len],aej U hq,?_,e23,?_,?_⟩
 ·have:=congrArg (List.take 18) e23;rw[List.take_take]at this;exact this.trans (by have:=Qe (vn:=vn) h2;rwa[List.drop_zero]at this)
 ·have:=congrArg (fun l=>l[18]?) e23;simp only[List.getElem?_take,List.getElem?_drop]at this;exact this.trans (zd h2 0)
 ·have:=congrArg (fun l=>l[19]?) e23;simp only[List.getElem?_take,List.getElem?_drop]at this;exact this.trans (zd h2 1)
def fdV:Value:=.func (.func 191) #[] #[]
theorem TH(g gl:Nat)(vn:Value)(x:Xc)(L:Lt)(lg:Nat)(hs:Value)(eb0 eb:Bool)(qs:List Value)(dp:Option Nat)(w:World)(h:xo w g gl vn x hs eb0 qs dp)(hl:yn w gl L)(hst:x.st)(hdn:x.done=false)(z:x.k<x.tr.length)(hu:L.us<=999999990)(hd:L.ds.length<=17592186044416)(hsn:x.uV<=1000000)(hlg:lg≠2)(heb:eb=(decide (lg=0)&&x.ed)):
  Calls prog 143 #[.pointer (some ⟨g,0,none⟩),.bool eb] w (zy g gl dp (ym x L lg) w):=by
 rw[aa4 hlg,<-heb];have LG:=Y (WJ g gl vn x L hs eb0 eb qs dp w h hl z hu hd hsn hst.trl);obtain⟨i1,i2,iq,isv⟩:=KK x L;have afK:(yz x L).sv.ip.length=16:=mX;obtain⟨x',hx'⟩:∃x':Xc,x'={x with y:=yz x L,left:=x.cl,uV:=x.uV+1}:=gG;unfold Qt at LG;rw[<-hx']at LG;have hq':x'.q=x.q:=by rw[hx']
 have HX':=Y hx';have HQ':=Y hq';have HST:=Y hst;have HEB:=Y heb;obtain⟨lcs,hlc⟩:=yO hl;obtain⟨T0,vt0,ds0,hb0,_⟩:=h.b;have gne:=yg hb0 hlc az;obtain⟨y,hy⟩:=ao (yz x L);rw[hy.out]at LG i1 i2 iq isv afK⊢;clear h hl hst heb hx' hlc hb0 hq';go_enter func143,ntmps143;go_wp2_with fail;refine LG.out.mono ?_;rintro _ w1 ⟨rfl,hB,l1,F1⟩;clear LG;have hql:=hB.ql;obtain⟨T,vt,ds,Z,U,X,h3,h4,h5,h6⟩:=hB.b;have hMl:=Ca (vn:=vn) (q:=x'.q) (vt:=vt) (gl:=gl) (k:=x'.k) (hs:=hs) (eb:=eb) (dp:=dp) (left:=x'.left) (uV:=x'.uV) (hard:=x'.hard) (done:=x'.done) (vd:=x'.vd) (ds:=ds) U hql;go_wp2_with(refine ur (.store 33 (.tmp 12) (.const (.pointer none))) J (af J g 41 (GR none) Z ff Qv ?_));intro w2 B2 g2 sw;clear sw;go_wp2_with(refine ur (.store 175 (.tmp 15) (.func 191)) J (af J g 16 (.func (.func 191) #[] #[]) B2 (by rw[List.length_set,hMl];omega) Qu ?_));intro w3 B3 g3 sw;clear sw;rw[MM U hql,ML U hql]at B3;have G3:=uC g2 g3 (.inl J);have fr:=Fr.grown (S:=fun i=>i=g) G3 Z (.inr (.inl J)) J;have hB3:xo w3 g gl vn x' fdV eb (xY vn y) none:=⟨⟨T,vt,ds,B3,U,X,h3,h4,fr.Jv h5 cQ,fr.yr h6⟩,hB.nm.uH fr.uH,hql⟩;have F3:Fr (LS g gl) w w3:=F1.trans (Fr.grown G3 Z (.inr (.inl J)) (.inl J)) (fun i _ h=>h);have l3:=l1.fr (S:=fun i=>i=g) (Fr.grown G3 Z (.inr (.inl J)) J) (fun e=>gne e.symm);obtain⟨ul,hM,ayP,mq,mad,_,m35,m36⟩:=hB3.qat afK;obtain⟨vnA,vnc,hvn,hNR⟩:=hB3.nm.form;have BU:=Y (fun W (Z:al w3 W)=>Jp vnA vnc x'.q y.id eb W (hNR.G Z) (hB3.nm.2.1));have hqv:qC vn x'.q=[.slice vnA x'.q.name.length vnc,.int .i64 x'.q.O,.int .i64 x'.q.N]:=by rw[hvn];rfl
 have LQ:Hid (∀V,al w3 V->(Instr.loadAt 28 (.pointer (some ⟨g,10,none⟩))).run prog V= .ok (.agg #[.slice vnA x'.q.name.length vnc,.int .i64 x'.q.O,.int .i64 x'.q.N]) V):=Y (fun V hV=>(hM.G hV hM.lt).wS 28 10 3 I _ underlying28 J xu _ (by rw[mq,hqv]));have LI:Hid (∀V,al w3 V->(Instr.loadAt 3 (.pointer (some ⟨g,36,none⟩))).run prog V= .ok (.int .i64 y.id) V):=Y (fun V hV=>uB underlying3 J ((hM.G hV hM.lt).M 36 m36));have LP:Hid (∀V,al w3 V->(Instr.loadAt 3 (.pointer (some ⟨g,35,none⟩))).run prog V= .ok (.int .i64 y.port) V):=Y (fun V hV=>uB underlying3 J ((hM.G hV hM.lt).M 35 m35));have LA:Hid (∀V,al w3 V->(Instr.loadAt 24 (.pointer (some ⟨g,17,none⟩))).run prog V= .ok (.agg y.sv.cells.toArray) V):=Y (fun V hV=>(hM.G hV hM.lt).wS 24 17 18 I _ underlying24 J Cf _ mad);have HF3:=Y F3;have HL3:=Y l3;have HB3:=Y hB3;have hsz:w.heap.size<=w3.heap.size:=F3.size;clear F3 l3 hB3 hM mq mad m35 m36 hqv hNR hvn B3 B2 g2 g3 G3 fr Z X h3 h4 h5 h6 hMl F1 l1 hB;generalize x'.q.name.length=nl at*;go_wp2_with fail;refine wp_region_held_drew (S:=fun V=>al w3 V) (by kernel_rfl) (Below.refl _ _).drew (fun K=>?_);refine uL K 10 [0,1,2,3,4,5,6,7,8,9] J (by kernel_rfl) (fun _ _ _ _ _ h=>h) J J ?_;repeat(refine aj _ ?_;simp only[E])
 (refine ah _ J J (fun V hV=>(uP 28 (.tmp 19) ⟨g,10,none⟩ J J (LQ.out V hV))) ?_;simp only[E])
 repeat(refine aj _ ?_;simp only[E])
 (refine ah _ J J (fun V hV=>(uP 3 (.tmp 24) ⟨g,36,none⟩ J J (LI.out V hV))) ?_;simp only[E])
 repeat(refine aj _ ?_;simp only[E])
 simp only[vY];refine vx 10 (some 27) 74 #[.agg #[.slice vnA nl vnc,.int .i64 x'.q.O,.int .i64 x'.q.N],.int .i64 y.id,.bool eb] (by kernel_rfl) J J (by kernel_rfl) bp (BU.out _ K) ?_;rintro _ w4 ⟨rfl,b4⟩;have K:=um K K.size b4;refine⟨_,J,K,?_⟩;simp only[E];obtain⟨oct,akP⟩:=ao ((vN (vW x'.q y.id eb) false).1);rw[akP.out];generalize(vN (vW x'.q y.id eb) false).2=er at*;refine uL K 5 [11,12,13,14,15] J (by kernel_rfl) (fun _ _ _ _ _ h=>h) J J ?_
 (refine aj (.tuple #[.string (bs oct),.int .i64 er]) ?_;simp only[E])
 (refine aj (.string (bs oct)) ?_;simp only[E])
 (refine aj (.int .i64 er) ?_;simp only[E])
 (refine aj (.string (bs oct)) ?_;simp only[E])
 (refine aj (.int .i64 er) ?_;simp only[E])
 simp only[vY];refine wpAnyH_done (by kernel_rfl) ?_ _;have RB:=Y (fun W=>KI 1 y.sv y.port oct afK W);have HLo:=Dp (o:=⟨1,y.sv,y.port,oct⟩) afK;have ON:=Y (fun W=>IK W ⟨1,y.sv,y.port,oct⟩ afK);obtain⟨oc,hoc⟩:=ao (Gs ⟨1,y.sv,y.port,oct⟩);rw[hoc.out]at RB HLo ON;obtain⟨ac,hac⟩:=ao y.sv.cells;rw[hac.out]at RB LA;have hS4:=K;clear LQ LI BU b4;go_wp2_with fail;refine wp_region_held_drew (S:=fun V=>al w3 V) (by kernel_rfl) (um hS4 hS4.size (Below.refl _ _).drew) (fun K=>?_);refine uL K 12 [0,1,2,3,4,5,6,7,8,9,10,11] J (by kernel_rfl) (fun _ _ _ _ _ h=>h) J J ?_;repeat(refine aj _ ?_;simp only[E])
 (refine ah _ J J (fun V hV=>(uP 24 (.tmp 33) ⟨g,17,none⟩ J J (LA.out V hV))) ?_;simp only[E])
 repeat(refine aj _ ?_;simp only[E])
 (refine ah _ J J (fun V hV=>(uP 3 (.tmp 38) ⟨g,35,none⟩ J J (LP.out V hV))) ?_;simp only[E])
 (refine aj (.string (bs oct)) ?_;simp only[E])
 (refine ah (.agg oc.toArray) J J (fun V hV=>(AZ 97 _ J #[(0,.int .i64 1),(1,.agg ac.toArray),(2,.int .i64 y.port),(3,.string (bs oct))] (by kernel_rfl) (RB.out V))) ?_;simp only[E])
 simp only[vY];refine uO 12 (by kernel_rfl) ?_;refine vz 12 (some 42) J J (by kernel_rfl) (Jq (.tmp 41) J J (MB _ oc HLo)) ?_;have OO:=ON.out w4.drew;have hS2:Below w3.heap.size w3 (w4.drew.alloc (.cells oc.toArray 97)):=oT;refine⟨hS2,?_⟩;clear K;have K:=hS2;clear hS2;simp only[E];refine uL K 1 [13] J (by kernel_rfl) (fun _ _ _ _ _ h=>h) J J ?_
 (refine aj (.slice (some ⟨w4.drew.heap.size,0,none⟩) 1 1) ?_;simp only[E])
 simp only[vY];refine wpAnyH_done (by kernel_rfl) ?_ _;have FIN:Hid (zy g gl dp ({x with y:=y,lg:=lg,left:=x.cl,uV:=x.uV+1},Hu L,[⟨1,y.sv,y.port,(vN (vW x.q y.id eb) false).1⟩]) w (.returned (.slice (some ⟨w4.drew.heap.size,0,none⟩) 1 1)) (w4.drew.alloc (.cells oc.toArray 97))):=Y (by
  have XB:=HB3.out.G K;have e1:=akP.out;rw[HQ'.out]at e1;rw[HX'.out]at XB;have st:=HST.out;refine⟨_,none,J,?_,⟨⟨fun _=>⟨st.ips,st.to1,st.to2,st.trl,st.err⟩,fun _=>⟨z,st.to1,Int.le_refl _,iq,isv,fun h=>absurd h hlg⟩⟩,⟨vn,fdV,eb,xY vn y,⟨XB.b,XB.nm,XB.ql⟩,fun _=>rfl,fun _=>⟨?_,?_,J,fun _=>rfl,fun h=>absurd h hlg⟩⟩⟩,HL3.out.G K,?_,fun i h=>by cases h⟩
  ·rw[e1];exact OO.mono (Nat.le_trans hsz hS4.size)
  ·unfold Qx;rw[if_neg hlg];rfl
  ·rw[HEB.out];rfl
  ·
   exact(HF3.out.mono (fun i h=>h.elim .inl (fun h=>.inr (.inl h)))).trans (Fr.G (S:=XS g gl dp) K) (fun i _ h=>h))
 clear HF3 HL3 HB3 HX' HST HEB HQ' OO K LA LP RB ON;exact qS
theorem zg.fr{g:Nat}{d:Dl}(h:zg w g d)(k:Fr S w w')(hg:¬S g):zg w' g d:=by
 obtain⟨p,⟨vn,ds,⟨last,ts,b0,b1,hpl,Z,hc,r⟩,X,h3,h4⟩,r2⟩:=h;exact⟨p,⟨vn,ds,⟨last,ts,b0,b1,hpl,k.vj Z hg,wV.C9 (fun j cs hj=>k.UZ hj cQ) _ _ hc,r⟩,X,h3.uH k.uH,k.yr h4⟩,r2⟩
theorem acC{y:Qy}(h:GQ y=0):(zw y).1.st=0:=by unfold zw;rw[if_pos h]
theorem aen(x:Xc)(L:Lt):ym x L 2=({x with y:=yz x L,lg:=2,left:=x.cl,uV:=x.uV+1,d:=(zw (yz x L)).1},Hu L,(zw (yz x L)).2):=if_pos J
def fcV:Value:=.func (.func 190) #[] #[]
theorem Kd(g gl:Nat)(vn:Value)(x:Xc)(L:Lt)(hs:Value)(eb0:Bool)(qs:List Value)(dp:Option Nat)(w:World)(h:xo w g gl vn x hs eb0 qs dp)(hl:yn w gl L)(hst:x.st)(hdn:x.done=false)(z:x.k<x.tr.length)(hu:L.us<=999999990)(hd:L.ds.length<=17592186044416)(hsn:x.uV<=1000000):
  Calls prog 142 #[.pointer (some ⟨g,0,none⟩)] w (zy g gl dp (ym x L 2) w):=by
 rw[aen];have LG:=Y (WJ g gl vn x L hs eb0 false qs dp w h hl z hu hd hsn hst.trl);obtain⟨i1,i2,iq,isv⟩:=KK x L;have afK:(yz x L).sv.ip.length=16:=mX;obtain⟨x',hx'⟩:∃x':Xc,x'={x with y:=yz x L,left:=x.cl,uV:=x.uV+1}:=gG;unfold Qt at LG;rw[<-hx']at LG;have hq':x'.q=x.q:=by rw[hx']
 have HX':=Y hx';have HST:=Y hst;have HQ':=Y hq';obtain⟨lcs,hlc⟩:=yO hl;obtain⟨T0,vt0,ds0,hb0,_⟩:=h.b;have gne:=yg hb0 hlc az;obtain⟨y,hy⟩:=ao (yz x L);rw[hy.out]at LG i1 i2 iq isv afK⊢;clear h hl hst hx' hlc hb0 hq';go_enter func142,ntmps142;go_wp2_with fail;refine LG.out.mono ?_;rintro _ w1 ⟨rfl,hB,l1,F1⟩;clear LG;have hql:=hB.ql;obtain⟨T,vt,ds,Z,U,X,h3,h4,h5,h6⟩:=hB.b;have hMl:=Ca (vn:=vn) (q:=x'.q) (vt:=vt) (gl:=gl) (k:=x'.k) (hs:=hs) (eb:=false) (dp:=dp) (left:=x'.left) (uV:=x'.uV) (hard:=x'.hard) (done:=x'.done) (vd:=x'.vd) (ds:=ds) U hql;go_wp2_with(refine ur (.store 175 (.tmp 9) (.func 190)) J (af J g 16 (.func (.func 190) #[] #[]) Z ff Qu ?_));intro w2 B2 g2 sw;clear sw;rw[ML U hql]at B2;have fr:=Fr.grown (S:=fun i=>i=g) g2 Z (.inr (.inl J)) J;have hB2:xo w2 g gl vn x' fcV false (xY vn y) dp:=⟨⟨T,vt,ds,B2,U,X,h3,h4,fr.Jv h5 cQ,fr.yr h6⟩,hB.nm.uH fr.uH,hql⟩;have F2:Fr (LS g gl) w w2:=F1.trans (Fr.grown g2 Z (.inr (.inl J)) (.inl J)) (fun i _ h=>h);have l2:=l1.fr (S:=fun i=>i=g) fr (fun e=>gne e.symm);obtain⟨ul,hM,ayP,mq,mad,m23,m35,m36⟩:=hB2.qat afK;obtain⟨vnA,vnc,hvn,hNR⟩:=hB2.nm.form;have hnl:=hB2.nm.2.1;have DN:Hid (Calls prog 15 #[.agg (xY vn y).toArray] w2 (aaO y w2)):=Y (by
  have e:x'.q=y.q:=HQ'.out.trans iq.symm;rw[e]at hNR hvn hnl;exact aaP _ y vnA vnc w2 ⟨by rw[hvn],afK,hNR⟩ hnl)
 have HF2:=Y F2;have HL2:=Y l2;have ty:=Y hB2;have hsz:w.heap.size<=w2.heap.size:=F2.size;clear F2 l2 hB2 mq mad m35 m36 hNR hvn g2 fr Z X h3 h4 h5 h6 hMl F1 l1 hB hnl B2;go_wp2_with(refine ur (.load 37 (.tmp 13)) J ?_;go_must(refine uu J _ _ J g 17 J hM 23 I _ underlying37 J Dy (xY vn y) m23 ?_));refine DN.out.mono ?_;rintro _ w4 ⟨gd,v4,rfl,hD4,hO4,b4,hgd⟩;obtain⟨T,vt,ds,Z,U,X,h3,h4,h5,h6⟩:=(ty.out.G b4).b;have hMl:=Ca (vn:=vn) (q:=x'.q) (vt:=vt) (gl:=gl) (k:=x'.k) (hs:=fcV) (eb:=false) (dp:=dp) (left:=x'.left) (uV:=x'.uV) (hard:=x'.hard) (done:=x'.done) (vd:=x'.vd) (ds:=ds) U hql;clear hM m23 DN;go_wp2_with(refine ur (.store 33 (.tmp 21) (.tmp 19)) J (af J g 41 (GR (some gd)) Z ff Qv ?_));intro w5 B5 g5 sw;clear sw;rw[MM U hql]at B5;have aGu:g<w2.heap.size:=ty.out.lt;have FIN:Hid (zy g gl dp ({x with y:=y,lg:=2,left:=x.cl,uV:=x.uV+1,d:=(zw y).1},Hu L,(zw y).2) w (.returned v4) w5):=Y (by
  have fr5:=Fr.grown (S:=fun i=>i=g) g5 Z (.inr (.inl J)) J;have st:=HST.out;have XB:xo w5 g gl vn x' fcV false (xY vn y) (some gd):=⟨⟨T,vt,ds,B5,U,X,h3,h4,fr5.Jv h5 cQ,fr5.yr h6⟩,(ty.out.G b4).nm.uH fr5.uH,hql⟩;rw[HX'.out]at XB;have hdy:GQ y=0:=by unfold GQ;rw[iq];exact st.err _ _ i1 i2
  refine⟨_,some gd,J,?_,⟨⟨fun _=>⟨st.ips,st.to1,st.to2,st.trl,st.err⟩,fun _=>⟨z,st.to1,Int.le_refl _,iq,isv,fun _=>⟨acC hdy,aee y,Ww y⟩⟩⟩,⟨vn,fcV,false,xY vn y,⟨XB.b,XB.nm,XB.ql⟩,fun e=>?_,fun _=>⟨J,J,J,fun h=>absurd J h,fun _=>⟨gd,J,hD4.fr fr5 I⟩⟩⟩⟩,(HL2.out.G b4).fr fr5 (fun e=>gne e.symm),?_,fun i h=>?_⟩
  ·exact(hO4.grown g5 I).mono I
  ·rw[hdn]at e;cases e
  ·exact((HF2.out.mono (fun i h=>h.elim .inl (fun h=>.inr (.inl h)))).trans (Fr.G (S:=XS g gl dp) b4) (fun i _ h=>h)).trans (Fr.grown (S:=XS g gl dp) g5 Z (.inr (.inl J)) (.inl J)) (fun i _ h=>h)
  ·
   injection h with h;exact .inr I)
 clear HF2 HL2 ty HX' HST HQ' hD4 hO4 b4 Z X h3 h4 h5 h6 hMl B5 g5;exact qS
theorem zy.back{g:Nat}{D:Option Nat}{r:XR}(h:zy g gl D r w1 e w')(k:Fr (XS g gl D) w w1):zy g gl D r w e w':=by
 obtain⟨v,D',he,ho,hx,hl,hf,hD⟩:=h;exact⟨v,D',he,ho.mono k.size,hx,hl,k.trans hf (fun _ _ h=>h),fun i hi=>(hD i hi).imp id (fun h=>Nat.le_trans k.size h)⟩
def WL(g gl:Nat)(vn:Value)(x:Xc)(hs:Value)(eb:Bool)(qs:List Value)(dp:Option Nat)(w:World)(e:Ending)(w':World):Prop:=e= .returned (.bool (decide (x.left-1<=0)))/\xo w' g gl vn {x with left:=x.left-1} hs eb qs dp/\w.grownBy w' (some g)
theorem TJ(g gl:Nat)(vn:Value)(x:Xc)(hs:Value)(eb:Bool)(qs:List Value)(dp:Option Nat)(w:World)(h:xo w g gl vn x hs eb qs dp)(U:1<=x.left)(X:x.left<=30):
  Calls prog 225 #[.pointer (some ⟨g,0,none⟩)] w (WL g gl vn x hs eb qs dp w):=by
 have agc:=vp w g 42 (.int .i64 (x.left-1));have FIN:Hid (WL g gl vn x hs eb qs dp w (.returned (.bool (decide (x.left-1<=0)))) (w.setCell ⟨g,42,none⟩ (.int .i64 (x.left-1)))):=Y ⟨J,h.put agc J J J J J J h.ql (fun T vt ds hT hd Z=>by
  have:=Z.set 42 (.int .i64 (x.left-1));rwa[MO hT h.ql]at this),agc⟩
 obtain⟨L,vt,ds,Z,_,_,_,_,_,_,_,_,_,_,_,_,c42,_⟩:=h.cells;have d42:=Z.M 42 c42;have f42:=Z.frozen 42;clear Z c42 h agc;generalize x.left=n at*;go_enter func225,ntmps225;exact qS
theorem TL(v:Int)(W:World):(Instr.build 92 #[(0,.int .i64 v)]).run prog W= .ok (.agg (Value.int .i64 v::uX).toArray) W:=by kernel_rfl
theorem TM(v:Int):∀u∈(Value.int .i64 v::uX:List Value),u.oneCell'=true:=by
 intro u hu;rcases List.mem_cons.1 hu with rfl|hu
 ·rfl
 ·exact(vf.zero default).one u hu
theorem Hx.x{g:Nat}{x:Xc}{vd:Int}{m:vU}{L:Lt}{D:Option Nat}(h:Hx g gl vn x eb vd m w e w')(hl:yn w gl L)(hg:g≠gl):e= .returned (.tuple #[])/\zy g gl D ({x with done:=true,vd:=vd,yr:=m},L,[]) w (.returned uz) w':=by
 obtain⟨he,Z,fr⟩:=h;exact⟨he,_,none,J,vJ.nil _ _,⟨⟨fun h=>dZ,fun h=>dZ⟩,⟨vn,_,eb,_,Z,fun _=>rfl,fun h=>dZ⟩⟩,hl.fr fr (fun e=>hg e.symm),fr.mono (fun _ h=>.inl h),fun i h=>dZ⟩
theorem Pf(g gl:Nat)(vn:Value)(x:Xc)(L:Lt)(hs:Value)(eb:Bool)(qs:List Value)(dp:Option Nat)(w:World)(h:xo w g gl vn x hs eb qs dp)(hl:yn w gl L)(hst:x.st)(hdn:x.done=false)(hu:L.us<=999999990)(hd:L.ds.length<=17592186044416)(hsn:x.uV<=1000000):
  Calls prog 90 #[.pointer (some ⟨g,0,none⟩)] w (zy g gl dp (Db x L) w):=by
 obtain⟨R,hR⟩:=ao (Db x L);rw[hR.out];obtain⟨lcs,hlc⟩:=yO hl;obtain⟨ul,vt,ds,Z,hM,c4,c7,c9,c10,c13,c14,c15,c16,c17,c40,c41,c42,c43,c44,c45,c46,hT,hm⟩:=h.cells;have gne:=yg Z hlc az;obtain⟨At,ct,hvt⟩:=hT.form;have d15:=Z.M 15 c15;have d13:=Z.M 13 c13;rw[hvt]at d13;have HK:=Y (Z.M 7 c7);have HE:=Y (Z.M 9 c9);have d44:=Z.M 44 c44;have H:=Lib.hid h;have HLT:=Y hl;have HST:=Y hst;by_cases z:x.k<x.tr.length
 case neg=>
  have hk':(x.k:Int)>=x.tr.length:=I;have hk2:decide ((x.tr.length:Int)<=x.k)=true:=aA;have HR:Hid (R=({x with done:=true,vd:=if x.hard then 5 else 4,yr:=vU.zero},L,[])):=Y (by rw[<-hR.out];unfold Db;rw[if_neg z]);clear h hl hst hlc Z hT hm c4 c7 c9 c10 c13 c14 c15 c16 c17 c40 c41 c42 c43 c44 c45 c46 hR hvt z;generalize x.tr.length=n at*;have HRF:Hid (x.hard=false->R=({x with done:=true,vd:=4,yr:=vU.zero},L,[])):=oI;have HRT:Hid (x.hard=true->R=({x with done:=true,vd:=5,yr:=vU.zero},L,[])):=oI;obtain⟨k,hkk⟩:∃k,k=x.k:=gG;rw[<-hkk]at d15 hk' hk2;obtain⟨hd,hhd⟩:∃hd,hd=x.hard:=gG;rw[<-hhd]at d44;have HHD:=Y hhd;clear hkk hhd HR;go_enter func90,ntmps90;go_wp2_with fail;go_quiet(fail);obtain⟨W,hW⟩:∃W,W=w.drewN nq:=gG;rw[<-hW];have HW:al w W:=kz;have e44:W.cell? ⟨g,44,none⟩=some (.bool hd):=hW▸d44;clear hW d44 d15 d13 hk' hk2;have RZ:=Y (fun V=>TL 4 V);have zl:(Value.int .i64 4::uX:List Value).length=15:=jy;have zl0:(Value.int .i64 0::uX:List Value).length=15:=jy;have zl5:(Value.int .i64 5::uX:List Value).length=15:=jy;have zo:=TM 4;have Z5:(Value.int .i64 4::uX:List Value).set 0 (.int .i64 5)=Value.int .i64 5::uX:=rfl;have F4:Hid (∀V,al w V->Calls prog 89 #[.pointer (some ⟨g,0,none⟩),.agg (Value.int .i64 4::uX).toArray] V (Hx g gl vn x eb 4 vU.zero V)):=Y (fun V Z=>EE g gl vn x hs eb qs dp 4 uX vU.zero V (H.out.G Z) (vf.zero _));have F5:Hid (∀V,al w V->Calls prog 89 #[.pointer (some ⟨g,0,none⟩),.agg (Value.int .i64 5::uX).toArray] V (Hx g gl vn x eb 5 vU.zero V)):=Y (fun V Z=>EE g gl vn x hs eb qs dp 5 uX vU.zero V (H.out.G Z) (vf.zero _));have BZ:=F.new W 92 (Value.int .i64 0::uX);obtain⟨ai9,hZ⟩:=ao (Value.int .i64 4::uX);obtain⟨awu,hY⟩:=ao (Value.int .i64 5::uX);rw[hZ.out]at RZ zl zo Z5 F4;rw[hY.out]at zl5 Z5 F5;have hWs:=HW.size;go_wp2_with(first
   |(refine ur (.build 92 #[(0,.const (.int .i64 4))]) rfl ?_;go_must(refine wi rfl 92 _ rfl #[(0,.int .i64 4)] ee (RZ.out _) ?_))
   |(refine ur (.store 92 (.tmp 3) (.tmp 14)) rfl (ab rfl W.heap.size 0 ai9 BZ (by rw[zl,zl0];decide) (by rw[zl];exact Cb) zo ?_)))
  intro w3 B3 g3 sw;clear sw;replace B3:=xA (L:=ai9) B3 dL;have K3:al W w3:=j8;have H3:=um HW HW.size K3;have d44:w3.cell? ⟨g,44,none⟩=some (.bool hd):=by rw[<-e44];exact World.cell?_of_block (K3.block _ (Nat.lt_of_lt_of_le H.out.lt HW.size))
  clear g3 e44 BZ RZ zo zl0 K3;generalize W.heap.size=gz at*;cases hd with
  |false=>have HR2:Hid (R=({x with done:=true,vd:=4,yr:=vU.zero},L,[])):=Y (HRF.out HHD.out.symm);have BV:=B3;have HV:=H3;have FV:=F4;have ZL:=zl;clear B3 H3 F4 F5 HRF HRT Z5 zl5 HHD;exact pR
  |true=>have HR2:Hid (R=({x with done:=true,vd:=5,yr:=vU.zero},L,[])):=Y (HRT.out HHD.out.symm);go_wp2_with(refine ur (.store 3 (.tmp 19) (.const (.int .i64 5))) J (af J gz 0 (.int .i64 5) B3 (by rw[zl];decide) uZ ?_));intro w4 BV g4 sw;clear sw;have HV:al w w4:=uq H3 g4 H3.size hWs;have FV:=F5;have ZL:=zl5;clear B3 H3 F4 F5 HRF HRT Z5 zl HHD d44 g4;exact pR
 have HR:Hid (R=ym x L (if x.vc then 2 else 0)):=Y (by rw[<-hR.out];unfold Db;rw[if_pos z]);have hk':¬(x.k:Int)>=x.tr.length:=I;have hk2:decide ((x.tr.length:Int)<=x.k)=false:=aA;have CN:=Y (fun V Z=>Kd g gl vn x L hs eb qs dp V (H.out.G Z) (HLT.out.G Z) HST.out hdn z hu hd hsn);have SN:=Y (fun V Z=>TH g gl vn x L 0 hs eb x.ed qs dp V (H.out.G Z) (HLT.out.G Z) HST.out hdn z hu hd hsn az ap);clear h hl hst hlc Z hT hm c4 c7 c9 c10 c13 c14 c15 c16 c17 c40 c41 c42 c43 c44 c45 c46 hR hvt z d44 H HLT HST;generalize x.tr.length=n,x.k=k at*;generalize hvc:x.vc=vc at*;have HVC:=Y hvc;generalize x.ed=ed at*;go_enter func90,ntmps90;go_wp2_with fail;go_quiet(fail);obtain⟨W,hW⟩:∃W,W=w.drewN nq:=gG;rw[<-hW];have HW:al w W:=kz;have d7:W.cell? ⟨g,7,none⟩=some (.bool vc):=hW▸HK.out;have d9:W.cell? ⟨g,9,none⟩=some (.bool ed):=hW▸HE.out;have C1:=Y (CN.out W HW);have S1:=Y (SN.out W HW);have FW:Fr (XS g gl dp) w W:=Fr.G HW;have HFW:=Y FW;clear hW d15 d13 HK HE CN SN hvc FW;cases vc with
 |true=>clear S1;go_wp2_with fail;refine C1.out.mono ?_;intro e1 w1 hx;have hx:=hx.back HFW.out;obtain⟨v,D',rfl,hx2⟩:=hx;have HX:=Y hx2;clear hx2 hx;go_wp2_with fail;go_ret;rw[HR.out];exact qw
 |false=>clear C1;go_wp2_with fail;refine S1.out.mono ?_;intro e1 w1 hx;have hx:=hx.back HFW.out;obtain⟨v,D',rfl,hx2⟩:=hx;have HX:=Y hx2;clear hx2 hx;go_wp2_with fail;go_ret;rw[HR.out];exact qw
theorem FH(g gl:Nat)(vn:Value)(x:Xc)(L:Lt)(hs:Value)(eb:Bool)(qs:List Value)(dp:Option Nat)(w:World)(h:xo w g gl vn x hs eb qs dp)(hl:yn w gl L)(hst:x.st)(hdn:x.done=false)(z:x.k<x.tr.length)(hu:L.us<=999999990)(hd:L.ds.length<=17592186044416)(hsn:x.uV<=1000000):
  Calls prog 226 #[.pointer (some ⟨g,0,none⟩)] w (zy g gl dp (wM x L) w):=by
 have agc:=vp w g 15 (.int .i64 ((x.k+1:Nat):Int));obtain⟨lcs,hlc⟩:=yO hl;have hkl:(x.k:Int)<=1000:=oO;have hk0:(0:Int)<=x.k:=I;have BG:Hid (Calls prog 90 #[.pointer (some ⟨g,0,none⟩)] (w.setCell ⟨g,15,none⟩ (.int .i64 ((x.k:Int)+1))) (zy g gl dp (wM x L) w)):=Y (by
  have e:(.int .i64 ((x.k:Int)+1))=Value.int .i64 ((x.k+1:Nat):Int):=mo;rw[e];have hX:xo (w.setCell ⟨g,15,none⟩ (.int .i64 ((x.k+1:Nat):Int))) g gl vn {x with k:=x.k+1} hs eb qs dp:=h.put agc J J J J J J h.ql (fun T vt ds hT hd Z=>by
   have:=Z.set 15 (.int .i64 ((x.k+1:Nat):Int));rwa[acy hT h.ql]at this)
  obtain⟨T,vt,ds,Z,_⟩:=h.b;have gne:=yg Z hlc az;have fr:Fr (fun i=>i=g) w (w.setCell ⟨g,15,none⟩ (.int .i64 ((x.k+1:Nat):Int))):=Fr.grown agc Z (.inr (.inl J)) J;have:=Pf g gl vn {x with k:=x.k+1} L hs eb qs dp _ hX (hl.fr fr (fun e=>gne e.symm)) ⟨hst.ips,hst.to1,hst.to2,hst.trl,hst.err⟩ hdn hu hd hsn;exact this.mono (fun e w' hx=>hx.back (fr.mono (fun _ h=>.inl h))))
 obtain⟨ul,vt,ds,Z,_,_,_,_,_,_,_,c15,_⟩:=h.cells;have d15:=Z.M 15 c15;have f15:=Z.frozen 15;clear Z c15 h hl hlc agc hst z;generalize wM x L=R at*;generalize(x.k:Int)=k at*;go_enter func226,ntmps226;go_wp2_with fail;refine BG.out.mono ?_;rintro e1 w1 ⟨v,D',rfl,hx⟩;have HX:=Y hx;clear hx;go_wp2_with fail;go_ret;exact qw
theorem aa5:(prog.info? 46).map (·.size)=some 10:=by kernel_rfl
theorem vf.head{ds:List Value}{m:vU}(h:vf w ds m):(ds.drop 0).take 10=m.hd.ww:=by
 obtain⟨vq,va,vu,ve,rfl,_⟩:=h;rfl
theorem MQ(g gl:Nat)(vn:Value)(x:Xc)(L:Lt)(hs:Value)(conn:Bool)(qs:List Value)(dp:Option Nat)(ds:List Value)(m:vU)(w:World)(h:xo w g gl vn x hs x.yB qs dp)(hl:yn w gl L)(hst:x.st)(hdn:x.done=false)(z:x.k<x.tr.length)(hu:L.us<=999999990)(hd:L.ds.length<=17592186044416)(hsn:x.uV<=1000000)(hc:conn=decide (x.lg=2))(hm:vf w ds m):
  Calls prog 227 #[.pointer (some ⟨g,0,none⟩),.agg ds.toArray,.bool conn] w (zy g gl dp (yX x L m) w):=by
 obtain⟨R,hR⟩:=ao (yX x L m);rw[hR.out];have hdl:=hm.len;have hhd:=hm.head;have HT:Hid (R=if xH m.hd conn x.yB=1 then({x with done:=true,vd:=zi x.q m,yr:=m},L,[])
  else if xH m.hd conn x.yB=2 then ym x L 2
  else if xH m.hd conn x.yB=3 then ym x L 1
  else if xH m.hd conn x.yB=5 then wM {x with hard:=true} L
  else wM x L):=Y (by rw[hc,<-hR.out];rfl)
 have VO:=Y (fun V=>acx m.hd conn x.yB V);obtain⟨lcs,hlc⟩:=yO hl;obtain⟨ul,vt,ds0,Z,hM,c4,c7,c9,c10,c13,c14,c15,c16,c17,c40,c41,c42,c43,c44,c45,c46,hTr,hm0⟩:=h.cells;have gne:=yg Z hlc az;have hgl:=Z.lt;obtain⟨A,cA,hvn,hNR⟩:=h.nm.form;have hnl:=h.nm.2.1;have HLT:=Y hl;have HB:=Y Z;have C10:Hid ((ul.drop 10).take 3=[.slice A x.q.name.length cA,.int .i64 x.q.O,.int .i64 x.q.N]):=Y (by rw[c10,hvn];rfl);have C40:=Y c40;have FI:=Y (fun V (hV:al w V)=>Ys x.q A cA ds m V (hNR.G hV) hnl (hm.G hV));have FN:=Y (fun V (hV:al w V)=>EE g gl vn x hs x.yB qs dp (zi x.q m) ds m V (h.G hV) (hm.G hV));have CN:=Y (fun V Z=>Kd g gl vn x L hs x.yB qs dp V (h.G Z) (hl.G Z) hst hdn z hu hd hsn);have SN:=Y (fun V Z=>TH g gl vn x L 1 hs x.yB false qs dp V (h.G Z) (hl.G Z) hst hdn z hu hd hsn az J);have NX:=Y (fun V Z=>FH g gl vn x L hs x.yB qs dp V (h.G Z) (hl.G Z) hst hdn z hu hd hsn);have NH:Hid (∀V,al w V->Calls prog 226 #[.pointer (some ⟨g,0,none⟩)] (V.setCell ⟨g,44,none⟩ (.bool true)) (zy g gl dp (wM {x with hard:=true} L) V)):=Y (fun V hV=>by
  have agc:=vp V g 44 (.bool true);have hX:xo (V.setCell ⟨g,44,none⟩ (.bool true)) g gl vn {x with hard:=true} hs x.yB qs dp:=(h.G hV).put agc J J J J J J h.ql (fun T vt ds hT hd Z=>by
   have:=Z.set 44 (.bool true);rwa[Vt hT h.ql]at this)
  have fr:Fr (fun i=>i=g) V (V.setCell ⟨g,44,none⟩ (.bool true)):=Fr.grown agc (Z.G hV Z.lt) (.inr (.inl J)) J;exact(FH g gl vn {x with hard:=true} L hs x.yB qs dp _ hX ((hl.G hV).fr fr (fun e=>gne e.symm)) ⟨hst.ips,hst.to1,hst.to2,hst.trl,hst.err⟩ hdn z hu hd hsn).mono (fun e w' hx=>hx.back (fr.mono (fun _ h=>.inl h))))
 have f44:∀V,al w V->V.frozen? ⟨g,44,none⟩=false:=fun V hV=>(Z.G hV Z.lt).frozen 44
 have ak4:=Y f44;have D44:=Y (fun V (hV:al w V)=>(Z.G hV Z.lt).M 44 c44);have HX:Below w.heap.size w (w.alloc (.cells ds.toArray 50)):=gF;have BX:=F.new w 50 ds;clear Z hTr hm0 c4 c7 c9 c13 c14 c15 c16 c17 c40 c41 c42 c43 c44 c45 c46 hR h hl hst hc hm hlc hvn hNR f44;generalize xH m.hd conn x.yB=vv at*;generalize zi x.q m=fv at*;generalize x.yB=eb,m.hd.ww=hv at*;obtain⟨gm,hgm⟩:∃gm,gm=w.heap.size:=gG;generalize x.q.name.length=nl at*;obtain⟨W0,hW0⟩:=ao (w.alloc (.cells ds.toArray 50));rw[hW0.out]at HX BX;go_enter func227,ntmps227;go_wp2_with fail;rw[hW0.out];refine wp_region_held_drew (S:=fun V=>al W0 V) (by kernel_rfl) (Below.refl _ _).drew (fun K=>?_);refine uL K 7 [0,1,2,3,4,5,6] J (by kernel_rfl) (fun _ _ _ _ _ h=>h) J J ?_;repeat(refine aj _ ?_;simp only[E])
 (refine ah _ J J (fun V hV=>(uP 46 (.tmp 7) ⟨w.heap.size,0,none⟩ J J ((BX.G hV BX.lt).wS 46 0 10 I _ underlying46 J aa5 _ hhd))) ?_;simp only[E])
 repeat(refine aj _ ?_;simp only[E])
 (refine ah _ J J (fun V hV=>(uP 4 (.tmp 12) ⟨g,40,none⟩ J J (uB underlying4 J ((HB.out.G (um HX HX.size hV) hgl).M 40 C40.out)))) ?_;simp only[E])
 simp only[vY];refine vx 7 (some 14) 196 #[.agg hv.toArray,.bool conn,.bool eb] (by kernel_rfl) J J (by kernel_rfl) bp (VO.out _) ?_;rintro _ w4 ⟨rfl,b4⟩;have K:=um K K.size b4;refine⟨_,J,K,?_⟩;simp only[E];refine wpAnyH_done (by kernel_rfl) ?_ _;have HW:=um HX HX.size K;have BW:=BX.G K BX.lt;have FW:Hid (Fr (XS g gl dp) w w4):=Y (Fr.G HW);clear HX BX K b4 VO hhd C40;by_cases v1:vv=1
 case pos=>
  have HR2:Hid (R=({x with done:=true,vd:=fv,yr:=m},L,[])):=Y fg;subst v1;have LQ:∀V,al w V->(Instr.loadAt 28 (.pointer (some ⟨g,10,none⟩))).run prog V= .ok (.agg #[.slice A nl cA,.int .i64 x.q.O,.int .i64 x.q.N]) V:=fun V hV=>(HB.out.G hV hgl).wS 28 10 3 I _ underlying28 J xu _ C10.out
  have LQ2:Hid (∀V hs' eb' qs' dp',xo V g gl vn {x with done:=true,vd:=fv,yr:=m} hs' eb' qs' dp'->(Instr.loadAt 28 (.pointer (some ⟨g,10,none⟩))).run prog V= .ok (.agg #[.slice A nl cA,.int .i64 x.q.O,.int .i64 x.q.N]) V):=Y (fun V hs' eb' qs' dp' hV=>by
   obtain⟨M',vt',ds',hb',hM',_,_,_,azr,_⟩:=hV.cells;exact hb'.wS 28 10 3 I _ underlying28 J xu _ (azr.trans (c10.symm.trans C10.out)))
  have LM:∀V,F V w.heap.size 50 ds->(Instr.loadAt 50 (.pointer (some ⟨w.heap.size,0,none⟩))).run prog V= .ok (.agg ds.toArray) V:=kP;have HLM:=Y LM;have HLQ:=Y LQ;have hWd:Below w.heap.size w w4.drew:=HW.drew;have hS0:=And.intro (LQ _ hWd) (LM _ BW.drew);clear HT CN SN NX NH ak4 D44 C10 LQ LM c10;go_wp2_with fail;refine wp_region_held_drew (S:=fun V=>(Instr.loadAt 28 (.pointer (some ⟨g,10,none⟩))).run prog V= .ok (.agg #[.slice A nl cA,.int .i64 x.q.O,.int .i64 x.q.N]) V/\(Instr.loadAt 50 (.pointer (some ⟨w.heap.size,0,none⟩))).run prog V= .ok (.agg ds.toArray) V) (by kernel_rfl) hS0 (fun K=>?_);refine uL K 6 [0,1,2,3,4,5] J (by kernel_rfl) (fun _ _ _ _ _ h=>h) J J ?_;repeat(refine aj _ ?_;simp only[E])
  (refine ah _ J J (fun V hV=>(uP 28 (.tmp 20) ⟨g,10,none⟩ J J hV.1)) ?_;simp only[E])
  (refine ah _ J J (fun V hV=>(uP 50 (.tmp 4) ⟨w.heap.size,0,none⟩ J J hV.2)) ?_;simp only[E])
  simp only[vY];refine uO 6 (by kernel_rfl) ?_;refine wG 6 (some 23) 197 #[.agg #[.slice A nl cA,.int .i64 x.q.O,.int .i64 x.q.N],.agg ds.toArray] J J (by kernel_rfl) bp (FI.out _ hWd) ?_;rintro _ w5 ⟨rfl,b5⟩;have hW5:=um hWd hWd.size b5;have BW5:F w5 w.heap.size 50 ds:=BW.drew.G b5 BW.drew.lt;refine⟨_,J,⟨HLQ.out _ hW5,HLM.out _ BW5⟩,?_⟩;simp only[E];refine uO 7 (by kernel_rfl) ?_;refine wG 7 (some 24) 89 #[.pointer (some ⟨g,0,none⟩),.agg (Value.int .i64 fv::ds).toArray] J J (by kernel_rfl) bp (FN.out _ hW5) ?_;intro e9 w9 hf;have B9:F w9 w.heap.size 50 ds:=hf.2.2.vj BW5 I;have Q9:=LQ2.out w9 _ _ _ _ hf.2.1;obtain⟨he,hx⟩:=hf.x (L:=L) (D:=dp) (HLT.out.G hW5) gne;rw[he];have HX:=Y (hx.back (Fr.G hW5));refine⟨_,J,⟨Q9,HLM.out _ B9⟩,?_⟩;clear he hf hx FI FN LQ2 HLM HLQ K hS0 BW B9 Q9 BW5;simp only[E];refine wpAnyH_done (by kernel_rfl) ?_ _;go_wp2_with fail;go_ret;rw[HR2.out];exact HX.out
 have n1:(vv==1)=false:=by simpa using v1
 clear FI FN;by_cases v2:vv=2
 case pos=>have HR2:Hid (R=ym x L 2):=Y fh;subst v2;have C:=Y (CN.out _ HW);clear HT CN SN NX NH ak4 D44 BW v1;exact pb
 have n2:(vv==2)=false:=by simpa using v2
 by_cases v3:vv=3
 case pos=>have HR2:Hid (R=ym x L 1):=Y fi;subst v3;have C:=Y (SN.out _ HW);clear HT CN SN NX NH ak4 D44 BW v1 v2;exact pb
 have n3:(vv==3)=false:=by simpa using v3
 by_cases v5:vv=5
 case pos=>have HR2:Hid (R=wM {x with hard:=true} L):=Y fj;subst v5;have C:=Y (NH.out _ HW);have f44:=ak4.out _ HW;have d44:=D44.out _ HW;clear HT CN SN NX NH ak4 D44 BW v1 v2 v3;exact pb
 have n5:(vv==5)=false:=by simpa using v5
 have HR2:Hid (R=wM x L):=Y fk;have C:=Y (NX.out _ HW);clear HT CN SN NX NH ak4 D44 BW v1 v2 v3 v5;exact pb
theorem MR:(prog.info? 42).map (·.size)=some 22:=by kernel_rfl
theorem yh.G{g:Nat}{D:Option Nat}{x:Xc}(h:yh w g gl D x)(k:al w w'):yh w' g gl D x:=by
 obtain⟨ok,vn,hs,eb,qs,Z,U,X⟩:=h;refine⟨ok,vn,hs,eb,qs,Z.G k,U,fun hd=>?_⟩;obtain⟨a,b,c,d,e⟩:=X hd;refine⟨a,b,c,d,fun hl=>?_⟩;obtain⟨gd,hg,hD⟩:=e hl;exact⟨gd,hg,hD.G k⟩
theorem yh.vj{g:Nat}{D:Option Nat}{x:Xc}(h:yh w g gl D x):∃L,F w g 177 L:=by
 obtain⟨ok,vn,hs,eb,qs,Z,_⟩:=h;obtain⟨T,vt,ds,Z,_⟩:=Z.b;exact⟨_,Z⟩
theorem zy.none{g:Nat}{D:Option Nat}{x:Xc}{L:Lt}(h:yh w' g gl D x)(hl:yn w' gl L)(k:Fr (XS g gl D) w w'):zy g gl D (x,L,[]) w (.returned uz) w':=⟨_,D,J,vJ.nil _ _,h,hl,k,fun i hi=>.inl hi⟩
theorem Qz(g gl:Nat)(D:Option Nat)(x:Xc)(L:Lt)(e:Ev)(w:World)(h:yh w g gl D x)(hl:yn w gl L)(hdn:x.done=false)(hlg:x.lg≠2)(h2:e.fr.ip.length=16)(hs:e.data.length<=maxLen)(hu:L.us<=999999990)(hd:L.ds.length<=17592186044416)(hsn:x.uV<=1000000):
  Calls prog 191 #[.pointer (some ⟨g,0,none⟩),.agg (yj e).toArray] w (zy g gl D (xI x L e) w):=by
 obtain⟨R,hR⟩:=ao (xI x L e);rw[hR.out];have HT:Hid (R=if e.kind=1 then(if x.left<=1 then wM {x with left:=x.left-1} L else({x with left:=x.left-1},L,[]))
  else if(Dm x.y e).2 then yX x L (Dm x.y e).1 else(x,L,[])):=Y (by rw[<-hR.out];unfold xI;rw[if_neg fl,if_neg hlg])
 have HAT:=Lib.hid h;obtain⟨ok,vn,hv,eb,qs,Z,-,X⟩:=h;obtain⟨z,hl1,hl2,hyq,ajX,-⟩:=ok.go hdn;have hst:=ok.st hdn;obtain⟨hhv,heb,hqs,hD,-⟩:=X hdn;have hD:=hD hlg;subst hD;subst heb;subst hqs;have afK:x.y.sv.ip.length=16:=jO;obtain⟨lcs,hlc⟩:=yO hl;obtain⟨T,vt,ds0,hbk,-⟩:=Z.b;have gne:=yg hbk hlc az;clear hbk hlc T vt ds0;have hel:=Dk h2;have E0:(yj e)[0]?=some (.int .i64 e.kind):=rfl;have HB:=Y Z;have HLT:=Y hl;have HST:=Y hst;have HOK:=Y ok;have hto:x.left<=30:=mW;have HX:Below w.heap.size w (w.alloc (.cells (yj e).toArray 42)):=gF;have aeH:=F.new w 42 (yj e);have HE:=Y aeH;have d0:=aeH.M 0 E0;obtain⟨A,cA,hvn,hNR⟩:=Z.nm.form;rw[<-hyq]at hvn hNR;have PK:=Y (fun V (hV:al w V)=>U8 (xY vn x.y) x.y A cA e V (Ho.G ⟨by rw[hvn],afK,hNR⟩ hV) h2 hs);have HVN:=Y hhv;clear hl hst ok hvn hNR hs hyq ajX hR aeH;obtain⟨w1,hw1⟩:=ao (w.alloc (.cells (yj e).toArray 42));rw[hw1.out]at HX HE;have FX:Fr (XS g gl none) w w1:=Fr.G HX;by_cases hk1:e.kind=1
 case pos=>
  rw[if_pos hk1]at HT;have OV:=Y (TJ g gl vn x hv x.yB (xY vn x.y) none w1 (Z.G HX) hl1 hto);unfold WL at OV;rw[hk1]at d0;clear hk1 PK HE Z E0 X;by_cases hl0:x.left<=1
  case pos=>rw[if_pos hl0]at HT;rw[show decide (x.left-1<=0)=true by simp;omega]at OV;clear hl0;generalize yj e=es at*;go_enter func191,ntmps191;go_wp2_with fail;rw[hw1.out];refine OV.out.mono ?_;rintro _ w2 ⟨rfl,hb2,g2⟩;obtain⟨T,vt,ds0,hbk,_⟩:=(HB.out.G HX).b;have F2:=Fr.grown (S:=fun i=>i=g) g2 hbk (.inr (.inl J)) J;have hl2:=(HLT.out.G HX).fr F2 (fun e=>gne e.symm);have NX:=Y (FH g gl vn {x with left:=x.left-1} L hv x.yB (xY vn x.y) none w2 hb2 hl2 ⟨HST.out.ips,HST.out.to1,HST.out.to2,HST.out.trl,HST.out.err⟩ hdn z hu hd hsn);have FF:=Y (FX.trans (F2.mono (S':=XS g gl none) (fun _ h=>.inl h)) (fun _ _ h=>h));clear hbk hb2 g2 F2 hl2 OV d0 FX;go_wp2_with fail;refine NX.out.mono ?_;intro e1 w9 hx;have hx:=hx.back FF.out;obtain⟨v,D',rfl,hx2⟩:=hx;have HX2:=Y hx2;clear hx2 hx;go_wp2_with fail;go_ret;rw[HT.out];exact tv
  case neg=>
   rw[if_neg hl0]at HT;rw[show decide (x.left-1<=0)=false by simp;omega]at OV;have HL:=Y hl0;clear hl0;generalize yj e=es at*;go_enter func191,ntmps191;go_wp2_with fail;rw[hw1.out];refine OV.out.mono ?_;rintro _ w2 ⟨rfl,hb2,g2⟩;obtain⟨T,vt,ds0,hbk,_⟩:=(HB.out.G HX).b;have F2:=Fr.grown (S:=fun i=>i=g) g2 hbk (.inr (.inl J)) J;have hl3:=(HLT.out.G HX).fr F2 (fun e=>gne e.symm);have FF:=FX.trans (F2.mono (S':=XS g gl none) (fun _ h=>.inl h)) (fun _ _ h=>h);have FIN:Hid (zy g gl none ({x with left:=x.left-1},L,[]) w (.returned uz) w2):=Y (zy.none ⟨⟨fun _=>⟨HST.out.ips,HST.out.to1,HST.out.to2,HST.out.trl,HST.out.err⟩,fun h=>by
     obtain⟨k1,k2,k3,k4,k5,k6⟩:=HOK.out.go h;have:=HL.out;exact⟨k1,gC,gD,k4,k5,k6⟩⟩,⟨vn,hv,_,_,hb2,fun _=>rfl,fun _=>⟨HVN.out,J,J,fun _=>rfl,fun h=>absurd h hlg⟩⟩⟩ hl3 FF)
   clear hbk hb2 g2 F2 hl3 OV d0 FX FF;exact sf
 rw[if_neg hk1]at HT;have apB:(e.kind==1)=false:=lD;obtain⟨ul,hM,hMl,_,_,m23,_,_⟩:=(Z.G HX).qat afK;have LQ:∀V,al w1 V->(Instr.loadAt 37 (.pointer (some ⟨g,17,none⟩))).run prog V= .ok (.agg (xY vn x.y).toArray) V:=fun V hV=>(hM.G hV hM.lt).wS 37 17 23 I _ underlying37 J Dy _ m23
 have LE:∀V,al w1 V->(Instr.loadAt 42 (.pointer (some ⟨w.heap.size,0,none⟩))).run prog V= .ok (.agg (yj e).toArray) V:=fun V hV=>(HE.out.G hV HE.out.lt).wS 42 0 22 I _ underlying42 J MR _ (wP I)
 have HLQ:=Y LQ;have HLE:=Y LE;clear hk1 Z hM m23 LQ LE E0 X HE;generalize xY vn x.y=qs at*;generalize e.kind=kd at*;obtain⟨pp,hpp⟩:=ao (Dm x.y e);rw[hpp.out]at PK HT;generalize yj e=es at*;clear hel h2;go_enter func191,ntmps191;go_wp2_with fail;rw[hw1.out];go_upto_region 6 with fail;go_cut[5,6] (fun v5 v6 wx=>∃gm ds,v5= .pointer (some ⟨gm,0,none⟩)/\v6= .bool pp.2/\F wx gm 50 ds/\vf wx ds pp.1/\al w1 wx)
 case first=>
  refine wp_region_held_drew (S:=fun V=>al w1 V) (by kernel_rfl) (Below.refl _ _).drew (fun K=>?_);refine uL K 5 [0,1,2,3,4] J (by kernel_rfl) (fun _ _ _ _ _ h=>h) J J ?_;repeat(refine aj _ ?_;simp only[E])
  (refine ah _ J J (fun V hV=>(uP 37 (.tmp 17) ⟨g,17,none⟩ J J (HLQ.out V hV))) ?_;simp only[E])
  (refine ah _ J J (fun V hV=>(uP 42 (.tmp 3) ⟨w.heap.size,0,none⟩ J J (HLE.out V hV))) ?_;simp only[E])
  simp only[vY];refine yi 5 9 (by kernel_rfl) ?_ ?_
  ·
   refine wG 5 (some 20) 228 #[.agg qs.toArray,.agg es.toArray] J J (by kernel_rfl) bp (PK.out _ (um HX HX.size K)) ?_;rintro _ w3 ⟨ds,rfl,hM,b3⟩;have hdl:=hM.len;have hd1:=Y hM.one;have hS3:=um K K.size b3;refine⟨_,J,hS3,?_⟩;clear K b3;have K:=hS3;clear hS3;simp only[E];refine uL K 3 [6,7,8] J (by kernel_rfl) (fun _ _ _ _ _ h=>h) J J ?_
   (refine aj (.tuple #[.agg ds.toArray,.bool pp.2]) ?_;simp only[E])
   (refine aj (.agg ds.toArray) ?_;simp only[E])
   (refine aj (.bool pp.2) ?_;simp only[E])
   simp only[vY];have kn:Below w3.heap.size w3 (w3.alloc (.cells uX.toArray 50)):=gF;have hS4:=um K K.size kn;have hM4:=hM.G kn;have Bz:=F.new w3 50 uX;have hz:w1.heap.size<=w3.heap.size:=me;refine zz 9 (some 5) (by kernel_rfl) J J (by kernel_rfl) (v:=.pointer (some ⟨w3.heap.size,0,none⟩)) (w':=w3.alloc (.cells uX.toArray 50)) (by kernel_rfl) hS4 ?_;simp only[E];clear K hM kn;have K:=hS4;clear hS4;generalize w3.alloc (.cells uX.toArray 50)=wz at*;generalize w3.heap.size=gz at*;refine wu 10 none 50 (.tmp 5) (.tmp 21) (by kernel_rfl) J J J (by kernel_rfl) gz 0 J ds J Bz dL dK hd1.out ?_;intro w8 B8 g8 zs;clear zs;replace B8:F w8 gz 50 ds:=oL;have hM8:=hM4.vj g8 Bz;have hS8:al w1 w8:=jR;refine⟨hS8,?_⟩;clear K;have K:=hS8;simp only[E];refine uL K 1 [11] J (by kernel_rfl) (fun _ _ _ _ _ h=>h) J J ?_
   (refine aj (.bool pp.2) ?_;simp only[E])
   simp only[vY];refine wpAnyH_done (by kernel_rfl) ?_ _;exact qM
  ·
   have kn:Below w1.drew.heap.size w1.drew (w1.drew.alloc (.cells uX.toArray 50)):=gF;have hS4:=um K K.size kn;have Bn:=F.new w1.drew 50 uX;have hz:w1.heap.size<=w1.drew.heap.size:=me;refine vz 9 (some 5) (v:=.pointer (some ⟨w1.drew.heap.size,0,none⟩)) (w':=w1.drew.alloc (.cells uX.toArray 50)) J J (by kernel_rfl) (by kernel_rfl) ?_;refine⟨hS4,?_⟩;clear K kn;have K:=hS4;clear hS4;simp only[E];generalize w1.drew.alloc (.cells uX.toArray 50)=wy at*;generalize w1.drew.heap.size=gz at*;refine vx 5 (some 20) 228 #[.agg qs.toArray,.agg es.toArray] (by kernel_rfl) J J (by kernel_rfl) bp (PK.out _ (um HX HX.size K)) ?_;rintro _ w3 ⟨ds,rfl,hM4,b3⟩;have hdl:=hM4.len;have hd1:=Y hM4.one;have hS3:=um K K.size b3;have Bz:=Bn.G b3 Bn.lt;refine⟨_,J,hS3,?_⟩;clear K b3 Bn;have K:=hS3;clear hS3;simp only[E];refine uL K 3 [6,7,8] J (by kernel_rfl) (fun _ _ _ _ _ h=>h) J J ?_
   (refine aj (.tuple #[.agg ds.toArray,.bool pp.2]) ?_;simp only[E])
   (refine aj (.agg ds.toArray) ?_;simp only[E])
   (refine aj (.bool pp.2) ?_;simp only[E])
   simp only[vY];refine wu 10 none 50 (.tmp 5) (.tmp 21) (by kernel_rfl) J J J (by kernel_rfl) gz 0 J ds J Bz dL dK hd1.out ?_;intro w8 B8 g8 zs;clear zs;replace B8:F w8 gz 50 ds:=oL;have hM8:=hM4.vj g8 Bz;have hS8:al w1 w8:=jR;refine⟨hS8,?_⟩;clear K;have K:=hS8;simp only[E];refine uL K 1 [11] J (by kernel_rfl) (fun _ _ _ _ _ h=>h) J J ?_
   (refine aj (.bool pp.2) ?_;simp only[E])
   simp only[vY];refine wpAnyH_done (by kernel_rfl) ?_ _;exact qM
 obtain⟨gm,ds,rfl,rfl,BM,hM5,H5⟩:=hcut;have hdl:=hM5.len;have HB5:=um HX HX.size H5;have FB:=Y (Fr.G (S:=XS g gl none) HB5);have RP:=Y (MQ g gl vn x L hv false qs none ds pp.1 _ (HB.out.G HB5) (HLT.out.G HB5) HST.out hdn z hu hd hsn (by simp[hlg]) hM5);have FIN:=Y (zy.none (HAT.out.G HB5) (HLT.out.G HB5) FB.out);clear hM5 PK HLQ HLE d0 FX;cases hp2:pp.2 with
 |false=>rw[hp2]at HT;clear RP BM;exact sf
 |true=>rw[hp2]at HT;have HT2:Hid (R=yX x L pp.1):=Y (by rw[HT.out];rfl);clear FIN HT;go_wp2_with(refine ur (.load 50 (.tmp 5)) J ?_;go_must(refine uu J _ _ J gm 0 J BM 14 I _ underlying50 J uW ds (wP I) ?_));refine RP.out.mono ?_;intro e1 w9 hx;have hx:=hx.back FB.out;obtain⟨v,D',rfl,hx2⟩:=hx;have HX2:=Y hx2;clear hx2 hx RP;go_wp2_with fail;go_ret;rw[HT2.out];exact tv
theorem Fr.acD{B:Nat}{e:TypeId}{s n:Nat}{xs:List Value}(h:Fr S w w')(ho:w.ownsRow B e s v n xs)(K:∀b,v.ownBlock=some b->¬S b):w'.ownsRow B e s v n xs:=by
 obtain⟨h0,ho⟩:=ho;refine⟨h0,?_⟩;rcases ho with ho|⟨g,cap,cur,hv,hB,hg,r⟩
 ·exact .inl ho
 ·exact .inr ⟨g,cap,cur,hv,hB,h.vj (g:=g) (t:=e) (cs:=cur.toList) hg (K g (by rw[hv];rfl)),r⟩
theorem vJ.fr{l:List Ou}(h:vJ lo w v l)(k:Fr S w w')(K:∀b,lo<=b->¬S b):vJ lo w' v l:=by
 obtain⟨uo,U,X⟩:=h;exact⟨uo,k.acD U (fun b Z=>K b (xZ U b Z)),X⟩
theorem vJ.EV{l:List Ou}(h:vJ lo w v l){g:Nat}{t:TypeId}{L:List Value}(Z:F w g t L)(ht:t≠97):v.ownBlock≠some g:=by
 intro e;obtain⟨uo,U,_⟩:=h;rcases U.2 with⟨hv,_⟩|⟨g',cap,cur,hv,_,hg,_⟩
 ·rw[hv]at e;cases e
 ·rw[hv]at e;injection e with e;have e:g'=g:=e;subst e;exact yg (g:=g') (g':=g') (L':=cur.toList) Z hg ht J
theorem vJ.adq{l:List Ou}(h:vJ lo w v l)(hg:w.grownBy w' v.ownBlock):Fr (fun i=>v.ownBlock=some i) w w':=by
 obtain⟨uo,U,_⟩:=h;rcases U.2 with⟨hv,_⟩|⟨g',cap,cur,hv,_,Z,_⟩
 ·subst hv;exact⟨hg.os,hg.tape,hg.output,hg.size,fun i hi=>.inl (hg.block i hi (by intro h;cases h))⟩
 ·subst hv;exact Fr.grown (g:=g') (cs:=cur.toList) hg Z cQ J
theorem MT{α:Type}{R:List Value->α->Prop}:∀{a b:List (List Value)} {l m:List α},Ci R a l->Ci R b m->Ci R (a++b) (l++m)
 |[],_,[],_,_,h=>h
 |_::_,_,_::_,_,h,k=>⟨h.1,MT h.2 k⟩
theorem EF:∀{uo:List (List Value)} {l:List Ou},Ci OuI uo l->uo.flatten.length=l.length*21/\∀u∈uo.flatten,u.oneCell'=true
 |[],[],_=>⟨J,ap⟩
 |cs::uo,o::l,h=>by
  obtain⟨U,X⟩:=EF h.2;refine⟨?_,fun u hu=>?_⟩
  ·simp only[List.flatten_cons,List.length_append,List.length_cons,U,h.1.len];omega
  ·
   rcases List.mem_append.1 hu with hu|hu
   ·rw[h.1.1]at hu;exact acn u hu
   ·exact X u hu
theorem yP(w:World){Q:Exit->Act->World->Prop}(hgd:o.guard=none)(s x:Operand)
  (ho:o.op= .call {callee:=.builtin .append,args:= #[s,x],argTypes:= #[34,34]}) {lo lo2:Nat} {v1 v2:Value} {o1 o2:List Ou} (hs:a.eval s=v1) (hx:a.eval x=v2) (U:vJ lo w v1 o1) (X:vJ lo2 w v2 o2) (uw:lo<=w.heap.size) (hl:o1.length+o2.length<=100000)
  (h:∀v' w',vJ lo w' v' (o1++o2)->Fr (fun i=>v1.ownBlock=some i) w w'->wpList prog ops Q rest (a.put o.dst v') w'):wpList prog ops Q (o::rest) a w:=by
 have H1:=U;obtain⟨akk,w1,e1⟩:=U;obtain⟨ajF,w2,e2⟩:=X;obtain⟨l1,_⟩:=EF e1;obtain⟨l2,n2⟩:=EF e2;obtain⟨A2,c2,rfl⟩:=ya w2;refine zS w hgd s x 34 ho 97 (.agg ouZ.toArray) 21 64 underlying34 IJ (by kernel_rfl) az lo v1 o1.length akk.flatten hs w1 uw A2 o2.length c2 ajF.flatten hx (fun hp=>?_) l2 n2 aK I _ J ?_
 ·
  obtain⟨g,L,hA,Z,hL,_⟩:=AY w2 hp l2;refine⟨g,0,hA,fun j v hv=>?_⟩;rw[Nat.zero_add];refine Z.M j ?_;rw[<-hL]at hv;rw[List.getElem?_take]at hv;split at hv
  ·exact hv
  ·cases hv
 ·intro A' c' w' ho' hg;refine h _ w' ⟨akk++ajF,?_,MT e1 e2⟩ (H1.adq hg);rw[List.flatten_append,List.length_append];exact ho'
theorem zg.Ny{g:Nat}{d:Dl}(h:zg w g d):∃L,F w g 152 L:=by
 obtain⟨p,hJ,_⟩:=h;obtain⟨vn,L,ds,Z,_⟩:=hJ.vj;exact⟨L,Z⟩
theorem yh.fr{g:Nat}{D:Option Nat}{x:Xc}(h:yh w g gl D x)(k:Fr S w w')(hg:¬S g)(hD:∀i L,D=some i->F w i 152 L->¬S i):yh w' g gl D x:=by
 obtain⟨ok,vn,hs,eb,qs,Z,U,X⟩:=h;refine⟨ok,vn,hs,eb,qs,Z.fr k hg,U,fun hd=>?_⟩;obtain⟨a,b,c,d,e⟩:=X hd;refine⟨a,b,c,d,fun hl=>?_⟩;obtain⟨gd,hgd,hA⟩:=e hl;obtain⟨L,hL⟩:=hA.Ny;exact⟨gd,hgd,hA.fr k (hD gd L hgd hL)⟩
theorem zy.Cm{g:Nat}{D D':Option Nat}{r:XR}{o:List Ou}{v1 v':Value}(hx:yh w1 g gl D' r.1)(hl:yn w1 gl r.2.1)(k:Fr (XS g gl D) w w1)(hD:∀i,D'=some i->D=some i\/w.heap.size<=i)(U:vJ lo w1 v1 o)(uw:w.heap.size<=lo)(hv:vJ lo w' v' (o++r.2.2))(f:Fr (fun i=>v1.ownBlock=some i) w1 w'):zy g gl D (EU o r) w (.returned v') w':=by
 obtain⟨Lg,hLg⟩:=hx.vj;obtain⟨Ll,hLl⟩:=yO hl;refine⟨v',D',J,hv.mono uw,hx.fr f (U.EV hLg az) (fun i L hi Z=>U.EV Z az),hl.fr f (U.EV hLl az),k.trans f (fun i hi h=>?_),hD⟩;obtain⟨uo,ho,_⟩:=U;have:=xZ ho i h;omega
theorem TN(d:Dl)(e:Ev):(vM d e).1.st=d.st\/(vM d e).1.st=1\/(vM d e).1.st=2:=by
 unfold vM
 (repeat' split)<;>simp
theorem MU(g gl:Nat)(D:Option Nat)(x:Xc)(L:Lt)(e:Ev)(w:World)(h:yh w g gl D x)(hl:yn w gl L)(hdn:x.done=false)(hlg:x.lg=2)(h2:e.fr.ip.length=16)(hs:x.d.uR.length+e.data.length<=8796093022208)(hu:L.us<=999999990)(hd:L.ds.length<=17592186044416)(hsn:x.uV<=1000000):
  Calls prog 190 #[.pointer (some ⟨g,0,none⟩),.agg (yj e).toArray] w (zy g gl D (xI x L e) w):=by
 obtain⟨R,hR⟩:=ao (xI x L e);rw[hR.out];have HT:Hid (R=if e.kind=1 then(if x.left<=1 then EU (xU x.d).2 (wM {x with left:=x.left-1,d:=(xU x.d).1} L)else({x with left:=x.left-1},L,[]))
  else if(vM x.d e).1.st=1 then EU (vM x.d e).2 (yX {x with d:=(vM x.d e).1} L (vM x.d e).1.yr)
  else if(vM x.d e).1.st=2 then EU (vM x.d e).2 (wM {x with d:=(vM x.d e).1} L)
  else({x with d:=(vM x.d e).1},L,(vM x.d e).2)):=Y (by rw[<-hR.out];unfold xI;rw[if_neg fl,if_pos hlg])
 obtain⟨ok,vn,hv,eb,qs,Z,-,X⟩:=h;obtain⟨z,hl1,hl2,hyq,ajX,hdo⟩:=ok.go hdn;obtain⟨hds,hdy,hdk⟩:=hdo hlg;have hst:=ok.st hdn;obtain⟨hhv,heb,hqs,-,hDD⟩:=X hdn;obtain⟨gd,hD,hDA⟩:=hDD hlg;subst hD;subst heb;subst hqs;obtain⟨lcs,hlc⟩:=yO hl;obtain⟨ul,vt,ds0,hbk,hMl,_,_,_,_,_,_,_,_,_,_,c41,_⟩:=Z.cells;have gne:=yg hbk hlc az;obtain⟨Ld,hLd⟩:=hDA.Ny;have gnd:=yg hbk hLd az;have lnd:=yg hlc hLd az;have aiq:=hbk.lt;have aGA:=hLd.lt;have aGe:=hlc.lt;have hel:=Dk h2;have E0:(yj e)[0]?=some (.int .i64 e.kind):=rfl;have HB:=Y Z;have HLT:=Y hl;have HST:=Y hst;have HOK:=Y ok;have HDA:=Y hDA;have HHV:=Y hhv;have hto:x.left<=30:=mW;have HX:Below w.heap.size w (w.alloc (.cells (yj e).toArray 42)):=gF;have aeH:=F.new w 42 (yj e);have d0:=aeH.M 0 E0;have HE:=Y aeH;have HBK:=Y hbk;have hnd:=Y (Jr x.d e);have hng:=Y (Js x.d);clear hl hst ok hR aeH hlc hLd hDA hbk X hDD;obtain⟨w1,hw1⟩:=ao (w.alloc (.cells (yj e).toArray 42));rw[hw1.out]at HX HE;have FX:Fr (XS g gl (some gd)) w w1:=Fr.G HX;by_cases hk1:e.kind=1
 case pos=>
  rw[if_pos hk1]at HT;have OV:=Y (TJ g gl vn x hv x.yB (xY vn x.y) (some gd) w1 (Z.G HX) hl1 hto);unfold WL at OV;rw[hk1]at d0;clear hk1 HE Z E0;by_cases hl0:x.left<=1
  case pos=>
   rw[if_pos hl0]at HT;rw[show decide (x.left-1<=0)=true by simp;omega]at OV;clear hl0 hnd;generalize yj e=es at*;go_enter func190,ntmps190;go_wp2_with fail;rw[hw1.out];refine OV.out.mono ?_;rintro _ w2 ⟨rfl,hb2,g2⟩;have F2:=Fr.grown (S:=fun i=>i=g) g2 (HBK.out.G HX aiq) (.inr (.inl J)) J;have hl3:=(HLT.out.G HX).fr F2 (fun e=>gne e.symm);have hD3:=(HDA.out.G HX).fr F2 (fun e=>gnd e.symm);have FF:=FX.trans (F2.mono (S':=XS g gl (some gd)) (fun _ h=>.inl h)) (fun _ _ h=>h);obtain⟨_,_,_,atg,_,_,_,_,_,_,_,_,_,_,_,at0,_⟩:=hb2.cells;have d41:=atg.M 41 at0;unfold GR at d41;have HG:=Y (aaM gd x.d w2 hD3);obtain⟨Ld2,atJ⟩:=hD3.Ny;clear OV atg at0 d0 FX F2 g2;go_wp2_with fail;refine HG.out.mono ?_;rintro _ w3 ⟨v1,rfl,hO1,ayV,g3⟩;have F3:=Fr.grown (S:=fun i=>i=gd) g3 atJ (.inl J) J;have hb3:=hb2.fr F3 gnd;have hl4:=hl3.fr F3 lnd;have uw:w.heap.size<=w2.heap.size:=FF.size;have NX:=Y (FH g gl vn {x with left:=x.left-1,d:=(xU x.d).1} L hv x.yB (xY vn x.y) (some gd) w3 ⟨hb3.b,hb3.nm,hb3.ql⟩ hl4 ⟨HST.out.ips,HST.out.to1,HST.out.to2,HST.out.trl,HST.out.err⟩ hdn z hu hd hsn);have FG:=FF.trans (F3.mono (S':=XS g gl (some gd)) (fun i h=>.inr (.inr bK))) (fun _ _ h=>h);have nxl:(wM {x with left:=x.left-1,d:=(xU x.d).1} L).2.2.length<=1:=BO _ _;have aF8:=hng.out;have axy:w2.heap.size<=w3.heap.size:=F3.size;have HR2:Hid (R=EU (xU x.d).2 (wM {x with left:=x.left-1,d:=(xU x.d).1} L)):=HT;clear HG hb2 hl3 hD3 g3 F3 hb3 hl4 ayV d41 HT atJ hng;generalize wM {x with left:=x.left-1,d:=(xU x.d).1} L=r at*;go_wp2_with fail;refine NX.out.mono ?_;rintro _ w9 ⟨v2,D',rfl,hO2,hA9,hL9,hf9,hD9⟩;have O9:=hO1.fr hf9 (fun b Z h=>by
    rcases h with h|h|h
    ·have:=FF.size;have:=aiq;omega
    ·have:=FF.size;omega
    ·
     injection h with h;have:=FF.size;omega)
   have F9:=FG.trans hf9 (fun _ _ h=>h);replace hD9:∀i,D'=some i->some gd=some i\/w.heap.size<=i:=jr;have hO9:=hO2;have aso:w3.heap.size<=w9.heap.size:=hf9.size;clear NX hO1 hO2 hf9 FF FG;go_wp2_with(at_builtin;go_must(refine yP _ J (.tmp 17) (.tmp 19) J J J O9 hO9 I I ?_));exact qj
  case neg=>
   rw[if_neg hl0]at HT;rw[show decide (x.left-1<=0)=false by simp;omega]at OV;have HL:=Y hl0;clear hl0 hnd hng;generalize yj e=es at*;go_enter func190,ntmps190;go_wp2_with fail;rw[hw1.out];refine OV.out.mono ?_;rintro _ w2 ⟨rfl,hb2,g2⟩;have F2:=Fr.grown (S:=fun i=>i=g) g2 (HBK.out.G HX aiq) (.inr (.inl J)) J;have hl3:=(HLT.out.G HX).fr F2 (fun e=>gne e.symm);have hD3:=(HDA.out.G HX).fr F2 (fun e=>gnd e.symm);have FF:=FX.trans (F2.mono (S':=XS g gl (some gd)) (fun _ h=>.inl h)) (fun _ _ h=>h);have FIN:Hid (zy g gl (some gd) ({x with left:=x.left-1},L,[]) w (.returned uz) w2):=Y (zy.none ⟨⟨fun _=>⟨HST.out.ips,HST.out.to1,HST.out.to2,HST.out.trl,HST.out.err⟩,fun h=>by
     obtain⟨k1,k2,k3,k4,k5,k6⟩:=HOK.out.go h;have:=HL.out;exact⟨k1,gC,gD,k4,k5,k6⟩⟩,⟨vn,hv,_,_,hb2,fun h=>absurd (show x.done=true from h) fl,fun _=>⟨HHV.out,J,J,fun h=>absurd hlg h,fun _=>⟨gd,J,hD3⟩⟩⟩⟩ hl3 FF)
   clear hb2 g2 F2 hl3 hD3 OV d0 FX FF;exact sf
 rw[if_neg hk1]at HT;have apB:(e.kind==1)=false:=lD;have LE:∀V,F V w.heap.size 42 (yj e)->(Instr.loadAt 42 (.pointer (some ⟨w.heap.size,0,none⟩))).run prog V= .ok (.agg (yj e).toArray) V:=fun V hV=>hV.wS 42 0 22 I _ underlying42 J MR _ (wP I)
 have HLE:=Y LE;have HC:=Y (fun V (hV:al w V)=>aaQ gd x.d e V (HDA.out.G hV) h2 hs);have dy:=Wx x.d e;have dk:=Tg x.d e hdk;have DY:=Y (And.intro dy dk);unfold KH at HC;clear hk1 LE E0 Z hng dy dk;obtain⟨rd,hrd⟩:=ao (vM x.d e);rw[hrd.out]at HC HT hnd DY;generalize e.kind=kd at*;generalize yj e=es at*;clear hel h2 hs;have B41:F w1.drew g 177 ul:=(HBK.out.G HX aiq).drew;unfold GR at c41;have C41:=Y c41;have hS0:(Instr.loadAt 33 (.pointer (some ⟨g,41,none⟩))).run prog w1.drew= .ok (.pointer (some ⟨gd,0,none⟩)) w1.drew/\F w1.drew w.heap.size 42 es:=⟨uB underlying33 J (B41.M 41 c41),HE.out.drew⟩;clear c41;go_enter func190,ntmps190;go_wp2_with fail;rw[hw1.out];refine wp_region_held_drew (S:=fun V=>(Instr.loadAt 33 (.pointer (some ⟨g,41,none⟩))).run prog V= .ok (.pointer (some ⟨gd,0,none⟩)) V/\F V w.heap.size 42 es) (by kernel_rfl) hS0 (fun K=>?_);refine uL K 5 [0,1,2,3,4] J (by kernel_rfl) (fun _ _ _ _ _ h=>h) J J ?_;repeat(refine aj _ ?_;simp only[E])
 (refine ah _ J J (fun V hV=>(uP 33 (.tmp 23) ⟨g,41,none⟩ J J hV.1)) ?_;simp only[E])
 (refine ah _ J J (fun V hV=>(uP 42 (.tmp 3) ⟨w.heap.size,0,none⟩ J J (HLE.out V hV.2))) ?_;simp only[E])
 simp only[vY];have hWd:Below w.heap.size w w1.drew:=HX.drew;obtain⟨Ld1,atK⟩:=(HDA.out.G hWd).Ny;refine vx 5 (some 26) 18 #[.pointer (some ⟨gd,0,none⟩),.agg es.toArray] (by kernel_rfl) J J (by kernel_rfl) bp (HC.out _ hWd) ?_;rintro _ w3 ⟨v1,rfl,hO1,hD3,g3⟩;have aAM:=B41.grown g3 (by intro e;injection e with e;exact gnd e);have BE3:=K.2.grown g3 fo;have d41:=aAM.M 41 C41.out;have hS3:(Instr.loadAt 33 (.pointer (some ⟨g,41,none⟩))).run prog w3= .ok (.pointer (some ⟨gd,0,none⟩)) w3/\F w3 w.heap.size 42 es:=⟨uB underlying33 J d41,BE3⟩;refine⟨_,J,hS3,?_⟩;have F3:=Fr.grown (S:=fun i=>i=gd) g3 atK (.inl J) J;have hb3:=((HB.out.G hWd)).fr F3 gnd;have hl3:=(HLT.out.G hWd).fr F3 lnd;have uw:w.heap.size<=w1.drew.heap.size:=hWd.size;have axy:w1.drew.heap.size<=w3.heap.size:=F3.size;have FG:Fr (XS g gl (some gd)) w w3:=(Fr.G (S:=XS g gl (some gd)) hWd).trans (F3.mono (S':=XS g gl (some gd)) (fun i h=>.inr (.inr bK))) (fun _ _ h=>h);have DS:=Y (Vj gd rd.1 w3 hD3);have HD3:=Y hD3;have HB3:=Y hb3;have HL3:=Y hl3;have HO1:=Y hO1;have HFG:=Y FG;clear g3 atK B41 BE3 K hS0 HC F3 hb3 hl3 hD3 hO1 FG;have K:=hS3;simp only[E];refine uL K 1 [6] J (by kernel_rfl) (fun _ _ _ _ _ h=>h) J J ?_
 (refine aj v1 ?_;simp only[E])
 simp only[vY];refine wpAnyH_done (by kernel_rfl) ?_ _;clear K hS3;go_wp2_with fail;refine DS.out.mono ?_;rintro _ w3' ⟨rfl,rfl⟩;clear DS;have STX:({x with d:=rd.1}:Xc).st:=⟨HST.out.ips,HST.out.to1,HST.out.to2,HST.out.trl,HST.out.err⟩;have aqz:=Y STX;have XB3:xo w3 g gl vn {x with d:=rd.1} hv x.yB (xY vn x.y) (some gd):=⟨HB3.out.b,HB3.out.nm,HB3.out.ql⟩;have anK:=Y XB3;clear STX XB3;have aG8:=hnd.out;by_cases s1:rd.1.st=1
 case pos=>
  have HR2:Hid (R=EU rd.2 (yX {x with d:=rd.1} L rd.1.yr)):=Y ft;rw[s1];have DM:=Y (aaL gd rd.1 w3 HD3.out);unfold aaK at DM;clear HT s1;go_wp2_with fail;refine DM.out.mono ?_;rintro _ w4 ⟨ds,rfl,hM4,b4⟩;have RP:=Y (MQ g gl vn {x with d:=rd.1} L hv true (xY vn x.y) (some gd) ds rd.1.yr w4 (anK.out.G b4) (HL3.out.G b4) aqz.out hdn z hu hd hsn (by simp[hlg]) hM4);have O4:=HO1.out.G b4;have HO4:=Y O4;have F4:=HFG.out.trans (Fr.G (S:=XS g gl (some gd)) b4) (fun _ _ h=>h);have HF4:=Y F4;have aFS:w3.heap.size<=w4.heap.size:=b4.size;have nxl:(yX {x with d:=rd.1} L rd.1.yr).2.2.length<=1:=Gv _ _ _;clear DM hM4 b4 O4 F4 d41;generalize yX {x with d:=rd.1} L rd.1.yr=r at*;go_wp2_with fail;refine RP.out.mono ?_;rintro _ w9 ⟨v2,D',rfl,hO2,hA9,hL9,hf9,hD9⟩;have O9:=HO4.out.fr hf9 (fun b Z h=>by
   rcases h with h|h|h
   ·omega
   ·omega
   ·
    injection h with h;omega)
  have F9:=HF4.out.trans hf9 (fun _ _ h=>h);replace hD9:∀i,D'=some i->some gd=some i\/w.heap.size<=i:=jr;have hO9:=hO2;have aso:w4.heap.size<=w9.heap.size:=hf9.size;clear RP hO2 hf9;go_wp2_with(at_builtin;go_must(refine yP _ J (.tmp 34) (.tmp 41) J J J O9 hO9 I I ?_));exact qj
 have s1':(rd.1.st==1)=false:=by simpa using s1
 by_cases s2:rd.1.st=2
 case pos=>
  have HR2:Hid (R=EU rd.2 (wM {x with d:=rd.1} L)):=Y (by rw[HT.out,if_neg s1,if_pos s2]);have NX:=Y (FH g gl vn {x with d:=rd.1} L hv x.yB (xY vn x.y) (some gd) w3 anK.out HL3.out aqz.out hdn z hu hd hsn);have nxl:(wM {x with d:=rd.1} L).2.2.length<=1:=BO _ _;rw[s2];clear HT s1 s1' s2 d41;generalize wM {x with d:=rd.1} L=r at*;go_wp2_with fail;refine NX.out.mono ?_;rintro _ w9 ⟨v2,D',rfl,hO2,hA9,hL9,hf9,hD9⟩;have O9:=HO1.out.fr hf9 (fun b Z h=>by
   rcases h with h|h|h
   ·omega
   ·omega
   ·
    injection h with h;omega)
  have F9:=HFG.out.trans hf9 (fun _ _ h=>h);replace hD9:∀i,D'=some i->some gd=some i\/w.heap.size<=i:=jr;have hO9:=hO2;have aso:w3.heap.size<=w9.heap.size:=hf9.size;clear NX hO2 hf9;go_wp2_with(at_builtin;go_must(refine yP _ J (.tmp 45) (.tmp 47) J J J O9 hO9 I I ?_));exact qj
 have s2':(rd.1.st==2)=false:=by simpa using s2
 have HR2:Hid (R=({x with d:=rd.1},L,rd.2)):=Y (by rw[HT.out,if_neg s1,if_neg s2]);have FIN:Hid (zy g gl (some gd) ({x with d:=rd.1},L,rd.2) w (.returned v1) w3):=Y (by
  have h0:rd.1.st=0:=by
   rcases TN x.d e with h|h|h
   ·rw[hrd.out]at h;exact h.trans hds
   ·rw[hrd.out]at h;exact absurd h s1
   ·rw[hrd.out]at h;exact absurd h s2
  refine⟨v1,some gd,J,HO1.out.mono uw,⟨⟨fun _=>aqz.out,fun h=>?_⟩,⟨vn,hv,_,_,anK.out,fun h=>?_,fun h=>?_⟩⟩,HL3.out,HFG.out,fun i hi=>.inl hi⟩
  ·obtain⟨k1,k2,k3,k4,k5,k6⟩:=HOK.out.go h;exact⟨k1,k2,k3,k4,k5,fun hl=>⟨h0,DY.out.1.trans hdy,DY.out.2⟩⟩
  ·rw[show x.done=true from h]at hdn;cases hdn
  ·
   exact⟨HHV.out,J,J,fun h=>absurd hlg h,fun _=>⟨gd,J,HD3.out⟩⟩)
 clear HT s1 s2 HD3 HB3 anK HL3 HO1 HFG d41;generalize rd.1.st=st at*;exact qo
theorem EG{P:Program}{Q:Exit->Act->World->Prop}(hw:Region.wanted o (yielded ops a.tmps)=true)(hx:(execOp a.eval o).run P w= .ok (.value v) w)(h:wpList P ops Q rest (a.put o.dst v) w):wpList P ops Q (o::rest) a w:=by
 unfold wpList;rw[if_pos hw];left;unfold Oper.wp;rw[hx];exact h
theorem Vz{x:Xc}(h:x.done=true)(L:Lt)(e:Ev):xI x L e=(x,L,[]):=by unfold xI;rw[if_pos h]
theorem Jw(g gl:Nat)(D:Option Nat)(x:Xc)(L:Lt)(e:Ev)(w:World)(h:yh w g gl D x)(hl:yn w gl L)(h2:e.fr.ip.length=16)(hs:x.d.uR.length+e.data.length<=8796093022208)(hu:L.us<=999999990)(hd:L.ds.length<=17592186044416)(hsn:x.uV<=1000000):
  Calls prog 36 #[.pointer (some ⟨g,0,none⟩),.agg (yj e).toArray] w (zy g gl D (xI x L e) w):=by
 obtain⟨R,hR⟩:=ao (xI x L e);rw[hR.out];have hel:=Dk h2;have HX:Below w.heap.size w (w.alloc (.cells (yj e).toArray 42)):=gF;have aeH:=F.new w 42 (yj e);have HAT:=Lib.hid h;have HLT:=Y hl;obtain⟨ok,vn,hv,eb,qs,Z,U,X⟩:=h;obtain⟨ul,vt,ds0,hbk,hMl,_,_,_,_,_,_,_,c16,_,_,_,_,_,_,c45,_⟩:=Z.cells;have aiq:=hbk.lt;have HBK:=Y hbk;have d16:=(hbk.G HX aiq).M 16 c16;have d45:=(hbk.G HX aiq).M 45 c45;have C16:=Y c16;cases hdn:x.done with
 |true=>rw[hdn]at d45;have HR2:Hid (R=(x,L,[])):=Y (by rw[<-hR.out,Vz hdn]);have FIN:=Y (zy.none (HAT.out.G HX) (HLT.out.G HX) (Fr.G (S:=XS g gl D) HX));clear X hR hl Z hbk c16 c45 aeH U ok d16;generalize yj e=es at*;go_enter func36,ntmps36;exact qo
 |false=>
 rw[hdn]at d45;obtain⟨hhv,_⟩:=X hdn;obtain⟨f,hf,CF,CL⟩:∃f,hv= .func (.func f) #[] #[]/\Hid (∀V a b,(callFunc f #[a,b]).run prog V= .ok (.enter f #[a,b]) V)/\Hid (∀V,al w V->Calls prog f #[.pointer (some ⟨g,0,none⟩),.agg (yj e).toArray] V (zy g gl D R V)):=by
  rw[<-hR.out];unfold Qx at hhv;by_cases hlg:x.lg=2
  ·rw[if_pos hlg]at hhv;exact⟨_,hhv,Y (fun V a b=>by kernel_rfl),Y (fun V hV=>MU g gl D x L e V (HAT.out.G hV) (hl.G hV) hdn hlg h2 hs hu hd hsn)⟩
  ·rw[if_neg hlg]at hhv;exact⟨_,hhv,Y (fun V a b=>by kernel_rfl),Y (fun V hV=>Qz g gl D x L e V (HAT.out.G hV) (hl.G hV) hdn hlg h2 aK hu hd hsn)⟩
 rw[hf]at d16 C16;have HE:=Y aeH;have LE:Hid (∀V,F V w.heap.size 42 (yj e)->(Instr.loadAt 42 (.pointer (some ⟨w.heap.size,0,none⟩))).run prog V= .ok (.agg (yj e).toArray) V):=kA;clear X hR hl Z hbk c16 c45 aeH U ok hhv HAT h2 hs hel hdn;generalize yj e=es at*;obtain⟨w1,hw1⟩:=ao (w.alloc (.cells es.toArray 42));rw[hw1.out]at HX HE;go_enter func36,ntmps36;go_wp2_with(refine ur (.binOp .eql 175 (.tmp 17) (.const .nilFunc) 175) J ?_;go_must(refine EG (v:=.bool false) bp (by kernel_rfl) ?_));rw[hw1.out];have hWd:Below w.heap.size w w1.drew:=HX.drew;have hS0:(Instr.loadAt 175 (.pointer (some ⟨g,16,none⟩))).run prog w1.drew= .ok (.func (.func f) #[] #[]) w1.drew/\(Instr.loadAt 42 (.pointer (some ⟨w.heap.size,0,none⟩))).run prog w1.drew= .ok (.agg es.toArray) w1.drew:=⟨uB underlying175 J ((HBK.out.G hWd aiq).M 16 C16.out),LE.out _ HE.out.drew⟩;obtain⟨hS1,hS2⟩:=hS0;have CC:=Y (CL.out _ hWd);have FW:=Y (Fr.G (S:=XS g gl D) hWd);have H1:=Y hS1;have H2:=Y hS2;clear hS1 hS2 CL LE HE HBK C16 HX d16 d45 HLT;refine wp_region_held_drew (S:=fun _=>True) (by kernel_rfl) trivial (fun K=>?_);refine uL K 4 [0,1,2,4] J (by kernel_rfl) (fun _ _ _ _ _ h=>h) J J ?_;repeat(refine aj _ ?_;simp only[E])
 simp only[vY];refine yi 3 5 (by kernel_rfl) ?_ ?_
 ·
  refine xR 3 (some 23) 175 (.tmp 22) ⟨g,16,none⟩ J J J J (by kernel_rfl) H1.out ?_;refine⟨trivial,?_⟩;simp only[E];refine uO 5 (by kernel_rfl) ?_;refine xR 5 (some 25) 42 (.tmp 3) ⟨w.heap.size,0,none⟩ J J J J (by kernel_rfl) H2.out ?_;refine⟨trivial,?_⟩;simp only[E];refine uO 6 (by kernel_rfl) ?_;refine wG 6 (some 26) f #[.pointer (some ⟨g,0,none⟩),.agg es.toArray] J J (by kernel_rfl) fw CC.out ?_;intro e9 w9 hx;have hx:=hx.back FW.out;obtain⟨v,D',rfl,hx2⟩:=hx;have HX2:=Y hx2;clear hx hx2;refine⟨_,J,trivial,?_⟩;simp only[E];refine uL K 1 [7] J (by kernel_rfl) (fun _ _ _ _ _ h=>h) J J ?_
  (refine aj v ?_;simp only[E])
  simp only[vY];refine wpAnyH_done (by kernel_rfl) ?_ _;go_wp2_with fail;go_ret;exact tv
 ·
  refine xR 5 (some 25) 42 (.tmp 3) ⟨w.heap.size,0,none⟩ J J J J (by kernel_rfl) H2.out ?_;refine⟨trivial,?_⟩;simp only[E];refine uO 3 (by kernel_rfl) ?_;refine xR 3 (some 23) 175 (.tmp 22) ⟨g,16,none⟩ J J J J (by kernel_rfl) H1.out ?_;refine⟨trivial,?_⟩;simp only[E];refine uO 6 (by kernel_rfl) ?_;refine wG 6 (some 26) f #[.pointer (some ⟨g,0,none⟩),.agg es.toArray] J J (by kernel_rfl) fw CC.out ?_;intro e9 w9 hx;have hx:=hx.back FW.out;obtain⟨v,D',rfl,hx2⟩:=hx;have HX2:=Y hx2;clear hx hx2;refine⟨_,J,trivial,?_⟩;simp only[E];refine uL K 1 [7] J (by kernel_rfl) (fun _ _ _ _ _ h=>h) J J ?_
  (refine aj v ?_;simp only[E])
  simp only[vY];refine wpAnyH_done (by kernel_rfl) ?_ _;go_wp2_with fail;go_ret;exact tv
def aa6(vd:Int)(m:vU)(w:World)(e:Ending)(w':World):Prop:=∃ds,e= .returned (.agg (Value.int .i64 vd::ds).toArray)/\vf w' ds m/\al w w'
theorem Ke(g gl:Nat)(D:Option Nat)(x:Xc)(w:World)(h:yh w g gl D x):Calls prog 40 #[.pointer (some ⟨g,0,none⟩)] w (aa6 x.vd x.yr w):=by
 obtain⟨ok,vn,hv,eb,qs,Z,-,-⟩:=h;obtain⟨ul,vt,ds,hbk,hMl,_,_,_,_,_,_,_,_,_,_,_,_,_,_,_,c46,_,hM⟩:=Z.cells;have hdl:=hM.len;have hO1:∀v∈(Value.int .i64 x.vd::ds:List Value),v.oneCell'=true:=by exact rQ
 have anl:(Value.int .i64 x.vd::ds:List Value).length=15:=jU;have HM:=Y hM;have aiq:=hbk.lt;clear Z ok hM;generalize x.yr=m,x.vd=vd at*;obtain⟨aeI,hO⟩:=ao (Value.int .i64 vd::ds);rw[hO.out]at c46 hO1 anl;have HX:Below w.heap.size w (w.alloc (.cells (Value.int .i64 0::uX).toArray 92)):=gF;have BZ:=F.new w 92 (Value.int .i64 0::uX);have zl0:(Value.int .i64 0::uX:List Value).length=15:=jy;have BX:=hbk.G HX aiq;go_enter func40,ntmps40;go_wp2_with(first
  |(refine ur (.load 92 (.tmp 8)) rfl ?_;go_must(refine uu rfl _ _ rfl g 46 rfl BX 15 I _ underlying92 rfl Cb aeI c46 ?_))
  |(refine ur (.store 92 (.tmp 2) (.tmp 9)) rfl (ab rfl w.heap.size 0 aeI BZ fx fy hO1 ?_)))
 intro w2 B2 g2 sw;clear sw;replace B2:=xA (L:=aeI) B2 dL;have H2:=uq HX g2 HX.size (Nat.le_refl _);have FIN:Hid (aa6 vd m w (.returned (.agg aeI.toArray)) w2):=Y ⟨ds,by rw[hO.out],HM.out.G H2,H2⟩;clear BX BZ HX g2 H2 hO HM c46;go_wp2_with fail;refine xd J w.heap.size J B2 _ underlying92 J fy J ?_;exact FIN.out
end Go.Proofs.YthnbcmlnpdabhaaGreat
