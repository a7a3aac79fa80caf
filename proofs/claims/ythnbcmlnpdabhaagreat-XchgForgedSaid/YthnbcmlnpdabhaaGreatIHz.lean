/-
  Layer 29 (xchg):what a call on an exchange leaves;send.
-/
import Derived.Test.YthnbcmlnpdabhaaGreatIGz
namespace Go.Proofs.YthnbcmlnpdabhaaGreat
open _root_.Go.Proofs.Tryz
set_option maxHeartbeats 8000000
open Go.RowKit
set_option maxRecDepth 100000
set_option linter.unusedVariables false
set_option linter.unusedSimpArgs false
variable {w w' w1:World} {gl lo:Nat} {vn v:Value} {eb:Bool} {S:Nat->Prop} {e:Ending} {ops:Array Oper} {rest:List Oper} {o:Oper} {a:Act}
def UH(lg:Nat):Value:=if lg=2 then .func (.func 190) #[] #[]else .func (.func 191) #[] #[]
structure ya (w:World) (g gl:Nat) (D:Option Nat) (x:Xc):Prop where
 ok:x.ok
 b:∃vn hs eb qs,wM w g gl vn x hs eb qs D/\(x.done=true->D=none)/\(x.done=false->hs=UH x.lg/\eb=x.yc/\qs=xX vn x.y/\(x.lg≠2->D=none)/\(x.lg=2->∃gd,D=some gd/\yM w gd x.d))
def XS(g gl:Nat)(D:Option Nat)(i:Nat):Prop:=i=g\/i=gl\/D=some i
def y9(g gl:Nat)(D:Option Nat)(r:XR)(w:World)(e:Ending)(w':World):Prop:=∃v D',e= .returned v/\vI w.heap.size w' v r.2.2/\ya w' g gl D' r.1/\xT w' gl r.2.1/\Fr (XS g gl D) w w'/\∀i,D'=some i->D=some i\/w.heap.size<=i
theorem aai{x:Xc}{L:Lt}{lg:Nat}(h:lg≠2):xM x L lg=({x with y:=xZ x L,lg:=lg,left:=x.hS,uz:=x.uz+1},GL L,[⟨1,(xZ x L).sv,(xZ x L).port,(vg (vw x.q (xZ x L).id (decide (lg=0)&&x.ed)) false).1⟩]):=if_neg h
theorem Kf(x:Xc)(L:Lt):0<=(xZ x L).id/\(xZ x L).id<=65535/\(xZ x L).q=x.q/\(xZ x L).sv=x.tr.getD x.k uV.zero:=by
 obtain⟨U,X⟩:=Fp (wZ L 64512).2 (show(0:Int)<65536 by decide);exact⟨U,by show(wZ (wZ L 64512).2 65536).1<=65535;omega,J,J⟩
theorem Xc.st.leg{x:Xc}(h:x.st)(L:Lt)(lg:Nat):(xM x L lg).1.st:=by
 unfold xM;split<;>exact⟨h.ips,h.to1,h.to2,h.trl,h.err⟩
theorem PQ{l:List uV}(h:∀a∈l,a.ip.length=16)(k:Nat):(l.getD k uV.zero).ip.length=16:=by
 rw[List.getD_eq_getElem?_getD];cases O:l[k]? with
 |none=>rfl
 |some a=>exact h a (List.mem_of_getElem? O)
theorem wM.qat{g:Nat}{x:Xc}{hs:Value}{y:Qy}{dp:Option Nat}(h:wM w g gl vn x hs eb (xX vn y) dp)(ty:y.sv.ip.length=16):∃h2,Z w g 177 h2/\h2.length=61/\(h2.drop 10).take 3=qC vn x.q/\(h2.drop 17).take 18=y.sv.cells/\(h2.drop 17).take 23=xX vn y/\h2[35]?=some (.int .i64 y.port)/\h2[36]?=some (.int .i64 y.id):=by
 obtain⟨T,vt,ds,F,U,_,_,_,_,h6⟩:=h.b;have hq:=h.ql;have e23:=aey (vn:=vn) (q:=x.q) (vt:=vt) (gl:=gl) (k:=x.k) (hs:=hs) (eb:=eb) (dp:=dp) (left:=x.left) (uz:=x.uz) (hard:=x.hard) (done:=x.done) (vd:=x.vd) (ds:=ds) U hq;refine⟨_,F,by rw[AV U hq,h6.len],adr U hq,?_,e23,?_,?_⟩
 ·have:=congrArg (List.take 18) e23;rw[List.take_take]at this;exact this.trans (by have:=ZD (vn:=vn) ty;rwa[List.drop_zero]at this)
 ·have:=congrArg (fun l=>l[18]?) e23;simp only[List.getElem?_take,List.getElem?_drop]at this;exact this.trans (zj ty 0)
 ·have:=congrArg (fun l=>l[19]?) e23;simp only[List.getElem?_take,List.getElem?_drop]at this;exact this.trans (zj ty 1)
def fdV:Value:=.func (.func 191) #[] #[]
theorem Sv(g gl:Nat)(vn:Value)(x:Xc)(L:Lt)(lg:Nat)(hs:Value)(eb0 eb:Bool)(qs:List Value)(dp:Option Nat)(w:World)(h:wM w g gl vn x hs eb0 qs dp)(hl:xT w gl L)(hst:x.st)(hdn:x.done=false)(O:x.k<x.tr.length)(hu:L.us<=999999990)(hd:L.ds.length<=17592186044416)(hsn:x.uz<=1000000)(hlg:lg≠2)(heb:eb=(decide (lg=0)&&x.ed)):
  Calls prog 143 #[.pointer (some ⟨g,0,none⟩),.bool eb] w (y9 g gl dp (xM x L lg) w):=by
 rw[aai hlg,<-heb];have LG:=Y (VK g gl vn x L hs eb0 eb qs dp w h hl O hu hd hsn hst.trl);obtain⟨i1,i2,iq,isv⟩:=Kf x L;have agb:(xZ x L).sv.ip.length=16:=mK;obtain⟨x',hx'⟩:∃x':Xc,x'={x with y:=xZ x L,left:=x.hS,uz:=x.uz+1}:=gp;unfold PM at LG;rw[<-hx']at LG;have hq':x'.q=x.q:=by rw[hx']
 have HX':=Y hx';have HQ':=Y hq';have HST:=Y hst;have HEB:=Y heb;obtain⟨lcs,hlc⟩:=xU hl;obtain⟨T0,vt0,ds0,hb0,_⟩:=h.b;have gne:=wJ hb0 hlc ax;obtain⟨y,hy⟩:=ao (xZ x L);rw[hy.out]at LG i1 i2 iq isv agb⊢;clear h hl hst heb hx' hlc hb0 hq';go_enter func143,ntmps143;go_wp2_with fail;refine LG.out.mono ?_;rintro _ w1 ⟨rfl,hB,l1,F1⟩;clear LG;have hql:=hB.ql;obtain⟨T,vt,ds,F,U,X,h3,h4,h5,h6⟩:=hB.b;have hMl:=AV (vn:=vn) (q:=x'.q) (vt:=vt) (gl:=gl) (k:=x'.k) (hs:=hs) (eb:=eb) (dp:=dp) (left:=x'.left) (uz:=x'.uz) (hard:=x'.hard) (done:=x'.done) (vd:=x'.vd) (ds:=ds) U hql;go_wp2_with(refine tO (.store 33 (.tmp 12) (.const (.pointer none))) J (af J g 41 (Gg none) F eZ PO ?_));intro w2 B2 g2 sw;clear sw;go_wp2_with(refine tO (.store 175 (.tmp 15) (.func 191)) J (af J g 16 (.func (.func 191) #[] #[]) B2 (by rw[List.length_set,hMl];omega) PN ?_));intro w3 B3 g3 sw;clear sw;rw[Md U hql,L7 U hql]at B3;have G3:=tU g2 g3 (.inl J);have fr:=Fr.grown (S:=fun i=>i=g) G3 F (.inr (.inl J)) J;have hB3:wM w3 g gl vn x' fdV eb (xX vn y) none:=⟨⟨T,vt,ds,B3,U,X,h3,h4,fr.I5 h5 cQ,fr.xP h6⟩,hB.nm.ue fr.ue,hql⟩;have F3:Fr (LS g gl) w w3:=F1.trans (Fr.grown G3 F (.inr (.inl J)) (.inl J)) (fun i _ h=>h);have l3:=l1.fr (S:=fun i=>i=g) (Fr.grown G3 F (.inr (.inl J)) J) (fun e=>gne e.symm);obtain⟨h2,hM,axG,mq,mad,_,m35,m36⟩:=hB3.qat agb;obtain⟨vnA,vnc,hvn,hNR⟩:=hB3.nm.form;have BU:=Y (fun W (F:al w3 W)=>IM vnA vnc x'.q y.id eb W (hNR.G F) (hB3.nm.2.1));have hqv:qC vn x'.q=[.slice vnA x'.q.name.length vnc,.int .i64 x'.q.E,.int .i64 x'.q.N]:=by rw[hvn];rfl
 have LQ:Hid (∀V,al w3 V->(Instr.loadAt 28 (.pointer (some ⟨g,10,none⟩))).run prog V= .ok (.agg #[.slice vnA x'.q.name.length vnc,.int .i64 x'.q.E,.int .i64 x'.q.N]) V):=Y (fun V hV=>(hM.G hV hM.lt).wk 28 10 3 I _ underlying28 J xh _ (by rw[mq,hqv]));have LI:Hid (∀V,al w3 V->(Instr.loadAt 3 (.pointer (some ⟨g,36,none⟩))).run prog V= .ok (.int .i64 y.id) V):=Y (fun V hV=>tV underlying3 J ((hM.G hV hM.lt).K 36 m36));have LP:Hid (∀V,al w3 V->(Instr.loadAt 3 (.pointer (some ⟨g,35,none⟩))).run prog V= .ok (.int .i64 y.port) V):=Y (fun V hV=>tV underlying3 J ((hM.G hV hM.lt).K 35 m35));have LA:Hid (∀V,al w3 V->(Instr.loadAt 24 (.pointer (some ⟨g,17,none⟩))).run prog V= .ok (.agg y.sv.cells.toArray) V):=Y (fun V hV=>(hM.G hV hM.lt).wk 24 17 18 I _ underlying24 J AZ _ mad);have HF3:=Y F3;have HL3:=Y l3;have HB3:=Y hB3;have hsz:w.heap.size<=w3.heap.size:=F3.size;clear F3 l3 hB3 hM mq mad m35 m36 hqv hNR hvn B3 B2 g2 g3 G3 fr F X h3 h4 h5 h6 hMl F1 l1 hB;generalize x'.q.name.length=nl at*;go_wp2_with fail;refine wp_region_held_drew (S:=fun V=>al w3 V) (by kernel_rfl) (Below.refl _ _).drew (fun M=>?_);refine uh M 10 [0,1,2,3,4,5,6,7,8,9] J (by kernel_rfl) (fun _ _ _ _ _ h=>h) J J ?_;repeat(refine aj _ ?_;simp only[z])
 (refine ah _ J J (fun V hV=>(ul 28 (.tmp 19) ⟨g,10,none⟩ J J (LQ.out V hV))) ?_;simp only[z])
 repeat(refine aj _ ?_;simp only[z])
 (refine ah _ J J (fun V hV=>(ul 3 (.tmp 24) ⟨g,36,none⟩ J J (LI.out V hV))) ?_;simp only[z])
 repeat(refine aj _ ?_;simp only[z])
 simp only[vx];refine uO 10 (some 27) 74 #[.agg #[.slice vnA nl vnc,.int .i64 x'.q.E,.int .i64 x'.q.N],.int .i64 y.id,.bool eb] (by kernel_rfl) J J (by kernel_rfl) bm (BU.out _ M) ?_;rintro _ w4 ⟨rfl,b4⟩;have M:=tL M M.size b4;refine⟨_,J,M,?_⟩;simp only[z];obtain⟨oct,ajZ⟩:=ao ((vg (vw x'.q y.id eb) false).1);rw[ajZ.out];generalize(vg (vw x'.q y.id eb) false).2=er at*;refine uh M 5 [11,12,13,14,15] J (by kernel_rfl) (fun _ _ _ _ _ h=>h) J J ?_
 (refine aj (.tuple #[.string (bs oct),.int .i64 er]) ?_;simp only[z])
 (refine aj (.string (bs oct)) ?_;simp only[z])
 (refine aj (.int .i64 er) ?_;simp only[z])
 (refine aj (.string (bs oct)) ?_;simp only[z])
 (refine aj (.int .i64 er) ?_;simp only[z])
 simp only[vx];refine wpAnyH_done (by kernel_rfl) ?_ _;have RB:=Y (fun W=>Kc 1 y.sv y.port oct agb W);have HLo:=Cy (o:=⟨1,y.sv,y.port,oct⟩) agb;have ON:=Y (fun W=>Ig W ⟨1,y.sv,y.port,oct⟩ agb);obtain⟨oc,hoc⟩:=ao (Ft ⟨1,y.sv,y.port,oct⟩);rw[hoc.out]at RB HLo ON;obtain⟨ac,hac⟩:=ao y.sv.cells;rw[hac.out]at RB LA;have hS4:=M;clear LQ LI BU b4;go_wp2_with fail;refine wp_region_held_drew (S:=fun V=>al w3 V) (by kernel_rfl) (tL hS4 hS4.size (Below.refl _ _).drew) (fun M=>?_);refine uh M 12 [0,1,2,3,4,5,6,7,8,9,10,11] J (by kernel_rfl) (fun _ _ _ _ _ h=>h) J J ?_;repeat(refine aj _ ?_;simp only[z])
 (refine ah _ J J (fun V hV=>(ul 24 (.tmp 33) ⟨g,17,none⟩ J J (LA.out V hV))) ?_;simp only[z])
 repeat(refine aj _ ?_;simp only[z])
 (refine ah _ J J (fun V hV=>(ul 3 (.tmp 38) ⟨g,35,none⟩ J J (LP.out V hV))) ?_;simp only[z])
 (refine aj (.string (bs oct)) ?_;simp only[z])
 (refine ah (.agg oc.toArray) J J (fun V hV=>(z6 97 _ J #[(0,.int .i64 1),(1,.agg ac.toArray),(2,.int .i64 y.port),(3,.string (bs oct))] (by kernel_rfl) (RB.out V))) ?_;simp only[z])
 simp only[vx];refine um 12 (by kernel_rfl) ?_;refine uM 12 (some 42) J J (by kernel_rfl) (IQ (.tmp 41) J J (LC _ oc HLo)) ?_;have OO:=ON.out w4.drew;have hS2:Below w3.heap.size w3 (w4.drew.alloc (.cells oc.toArray 97)):=ol;refine⟨hS2,?_⟩;clear M;have M:=hS2;clear hS2;simp only[z];refine uh M 1 [13] J (by kernel_rfl) (fun _ _ _ _ _ h=>h) J J ?_
 (refine aj (.slice (some ⟨w4.drew.heap.size,0,none⟩) 1 1) ?_;simp only[z])
 simp only[vx];refine wpAnyH_done (by kernel_rfl) ?_ _;have FIN:Hid (y9 g gl dp ({x with y:=y,lg:=lg,left:=x.hS,uz:=x.uz+1},GL L,[⟨1,y.sv,y.port,(vg (vw x.q y.id eb) false).1⟩]) w (.returned (.slice (some ⟨w4.drew.heap.size,0,none⟩) 1 1)) (w4.drew.alloc (.cells oc.toArray 97))):=Y (by
  have XB:=HB3.out.G M;have e1:=ajZ.out;rw[HQ'.out]at e1;rw[HX'.out]at XB;have st:=HST.out;refine⟨_,none,J,?_,⟨⟨fun _=>⟨st.ips,st.to1,st.to2,st.trl,st.err⟩,fun _=>⟨O,st.to1,Int.le_refl _,iq,isv,fun h=>absurd h hlg⟩⟩,⟨vn,fdV,eb,xX vn y,⟨XB.b,XB.nm,XB.ql⟩,fun _=>rfl,fun _=>⟨?_,?_,J,fun _=>rfl,fun h=>absurd h hlg⟩⟩⟩,HL3.out.G M,?_,fun i h=>by cases h⟩
  ·rw[e1];exact OO.mono (Nat.le_trans hsz hS4.size)
  ·unfold UH;rw[if_neg hlg];rfl
  ·rw[HEB.out];rfl
  ·
   exact(HF3.out.mono (fun i h=>h.elim .inl (fun h=>.inr (.inl h)))).trans (Fr.G (S:=XS g gl dp) M) (fun i _ h=>h))
 clear HF3 HL3 HB3 HX' HST HEB HQ' OO M LA LP RB ON;exact qt
theorem yM.fr{g:Nat}{d:Dl}(h:yM w g d)(k:Fr S w w')(hg:¬S g):yM w' g d:=by
 obtain⟨p,⟨vn,ds,⟨last,ts,b0,b1,hpl,F,hc,r⟩,X,h3,h4⟩,r2⟩:=h;exact⟨p,⟨vn,ds,⟨last,ts,b0,b1,hpl,k.uG F hg,wu.Cn (fun j cs hj=>k.Lj hj cQ) _ _ hc,r⟩,X,h3.ue k.ue,k.xP h4⟩,r2⟩
theorem abN{y:Qy}(h:Gf y=0):(yW y).1.st=0:=by unfold yW;rw[if_pos h]
theorem adv(x:Xc)(L:Lt):xM x L 2=({x with y:=xZ x L,lg:=2,left:=x.hS,uz:=x.uz+1,d:=(yW (xZ x L)).1},GL L,(yW (xZ x L)).2):=if_pos J
def fcV:Value:=.func (.func 190) #[] #[]
theorem JA(g gl:Nat)(vn:Value)(x:Xc)(L:Lt)(hs:Value)(eb0:Bool)(qs:List Value)(dp:Option Nat)(w:World)(h:wM w g gl vn x hs eb0 qs dp)(hl:xT w gl L)(hst:x.st)(hdn:x.done=false)(O:x.k<x.tr.length)(hu:L.us<=999999990)(hd:L.ds.length<=17592186044416)(hsn:x.uz<=1000000):
  Calls prog 142 #[.pointer (some ⟨g,0,none⟩)] w (y9 g gl dp (xM x L 2) w):=by
 rw[adv];have LG:=Y (VK g gl vn x L hs eb0 false qs dp w h hl O hu hd hsn hst.trl);obtain⟨i1,i2,iq,isv⟩:=Kf x L;have agb:(xZ x L).sv.ip.length=16:=mK;obtain⟨x',hx'⟩:∃x':Xc,x'={x with y:=xZ x L,left:=x.hS,uz:=x.uz+1}:=gp;unfold PM at LG;rw[<-hx']at LG;have hq':x'.q=x.q:=by rw[hx']
 have HX':=Y hx';have HST:=Y hst;have HQ':=Y hq';obtain⟨lcs,hlc⟩:=xU hl;obtain⟨T0,vt0,ds0,hb0,_⟩:=h.b;have gne:=wJ hb0 hlc ax;obtain⟨y,hy⟩:=ao (xZ x L);rw[hy.out]at LG i1 i2 iq isv agb⊢;clear h hl hst hx' hlc hb0 hq';go_enter func142,ntmps142;go_wp2_with fail;refine LG.out.mono ?_;rintro _ w1 ⟨rfl,hB,l1,F1⟩;clear LG;have hql:=hB.ql;obtain⟨T,vt,ds,F,U,X,h3,h4,h5,h6⟩:=hB.b;have hMl:=AV (vn:=vn) (q:=x'.q) (vt:=vt) (gl:=gl) (k:=x'.k) (hs:=hs) (eb:=false) (dp:=dp) (left:=x'.left) (uz:=x'.uz) (hard:=x'.hard) (done:=x'.done) (vd:=x'.vd) (ds:=ds) U hql;go_wp2_with(refine tO (.store 175 (.tmp 9) (.func 190)) J (af J g 16 (.func (.func 190) #[] #[]) F eZ PN ?_));intro w2 B2 g2 sw;clear sw;rw[L7 U hql]at B2;have fr:=Fr.grown (S:=fun i=>i=g) g2 F (.inr (.inl J)) J;have hB2:wM w2 g gl vn x' fcV false (xX vn y) dp:=⟨⟨T,vt,ds,B2,U,X,h3,h4,fr.I5 h5 cQ,fr.xP h6⟩,hB.nm.ue fr.ue,hql⟩;have F2:Fr (LS g gl) w w2:=F1.trans (Fr.grown g2 F (.inr (.inl J)) (.inl J)) (fun i _ h=>h);have l2:=l1.fr (S:=fun i=>i=g) fr (fun e=>gne e.symm);obtain⟨h2,hM,axG,mq,mad,m23,m35,m36⟩:=hB2.qat agb;obtain⟨vnA,vnc,hvn,hNR⟩:=hB2.nm.form;have hnl:=hB2.nm.2.1;have DN:Hid (Calls prog 15 #[.agg (xX vn y).toArray] w2 (ZZ y w2)):=Y (by
  have e:x'.q=y.q:=HQ'.out.trans iq.symm;rw[e]at hNR hvn hnl;exact Z0 _ y vnA vnc w2 ⟨by rw[hvn],agb,hNR⟩ hnl)
 have HF2:=Y F2;have HL2:=Y l2;have hk:=Y hB2;have hsz:w.heap.size<=w2.heap.size:=F2.size;clear F2 l2 hB2 mq mad m35 m36 hNR hvn g2 fr F X h3 h4 h5 h6 hMl F1 l1 hB hnl B2;go_wp2_with(refine tO (.load 37 (.tmp 13)) J ?_;go_must(refine tP J _ _ J g 17 J hM 23 I _ underlying37 J GH (xX vn y) m23 ?_));refine DN.out.mono ?_;rintro _ w4 ⟨gd,v4,rfl,hD4,hO4,b4,hgd⟩;obtain⟨T,vt,ds,F,U,X,h3,h4,h5,h6⟩:=(hk.out.G b4).b;have hMl:=AV (vn:=vn) (q:=x'.q) (vt:=vt) (gl:=gl) (k:=x'.k) (hs:=fcV) (eb:=false) (dp:=dp) (left:=x'.left) (uz:=x'.uz) (hard:=x'.hard) (done:=x'.done) (vd:=x'.vd) (ds:=ds) U hql;clear hM m23 DN;go_wp2_with(refine tO (.store 33 (.tmp 21) (.tmp 19)) J (af J g 41 (Gg (some gd)) F eZ PO ?_));intro w5 B5 g5 sw;clear sw;rw[Md U hql]at B5;have aFs:g<w2.heap.size:=hk.out.lt;have FIN:Hid (y9 g gl dp ({x with y:=y,lg:=2,left:=x.hS,uz:=x.uz+1,d:=(yW y).1},GL L,(yW y).2) w (.returned v4) w5):=Y (by
  have fr5:=Fr.grown (S:=fun i=>i=g) g5 F (.inr (.inl J)) J;have st:=HST.out;have XB:wM w5 g gl vn x' fcV false (xX vn y) (some gd):=⟨⟨T,vt,ds,B5,U,X,h3,h4,fr5.I5 h5 cQ,fr5.xP h6⟩,(hk.out.G b4).nm.ue fr5.ue,hql⟩;rw[HX'.out]at XB;have hdy:Gf y=0:=by unfold Gf;rw[iq];exact st.err _ _ i1 i2
  refine⟨_,some gd,J,?_,⟨⟨fun _=>⟨st.ips,st.to1,st.to2,st.trl,st.err⟩,fun _=>⟨O,st.to1,Int.le_refl _,iq,isv,fun _=>⟨abN hdy,adm y,VA y⟩⟩⟩,⟨vn,fcV,false,xX vn y,⟨XB.b,XB.nm,XB.ql⟩,fun e=>?_,fun _=>⟨J,J,J,fun h=>absurd J h,fun _=>⟨gd,J,hD4.fr fr5 I⟩⟩⟩⟩,(HL2.out.G b4).fr fr5 (fun e=>gne e.symm),?_,fun i h=>?_⟩
  ·exact(hO4.grown g5 I).mono I
  ·rw[hdn]at e;cases e
  ·exact((HF2.out.mono (fun i h=>h.elim .inl (fun h=>.inr (.inl h)))).trans (Fr.G (S:=XS g gl dp) b4) (fun i _ h=>h)).trans (Fr.grown (S:=XS g gl dp) g5 F (.inr (.inl J)) (.inl J)) (fun i _ h=>h)
  ·
   injection h with h;exact .inr I)
 clear HF2 HL2 hk HX' HST HQ' hD4 hO4 b4 F X h3 h4 h5 h6 hMl B5 g5;exact qt
theorem y9.back{g:Nat}{D:Option Nat}{r:XR}(h:y9 g gl D r w1 e w')(k:Fr (XS g gl D) w w1):y9 g gl D r w e w':=by
 obtain⟨v,D',he,ho,hx,hl,hf,hD⟩:=h;exact⟨v,D',he,ho.mono k.size,hx,hl,k.trans hf (fun _ _ h=>h),fun i hi=>(hD i hi).imp id (fun h=>Nat.le_trans k.size h)⟩
def VL(g gl:Nat)(vn:Value)(x:Xc)(hs:Value)(eb:Bool)(qs:List Value)(dp:Option Nat)(w:World)(e:Ending)(w':World):Prop:=e= .returned (.bool (decide (x.left-1<=0)))/\wM w' g gl vn {x with left:=x.left-1} hs eb qs dp/\w.grownBy w' (some g)
theorem Sw(g gl:Nat)(vn:Value)(x:Xc)(hs:Value)(eb:Bool)(qs:List Value)(dp:Option Nat)(w:World)(h:wM w g gl vn x hs eb qs dp)(U:1<=x.left)(X:x.left<=30):
  Calls prog 225 #[.pointer (some ⟨g,0,none⟩)] w (VL g gl vn x hs eb qs dp w):=by
 have afr:=uL w g 42 (.int .i64 (x.left-1));have FIN:Hid (VL g gl vn x hs eb qs dp w (.returned (.bool (decide (x.left-1<=0)))) (w.setCell ⟨g,42,none⟩ (.int .i64 (x.left-1)))):=Y ⟨J,h.put afr J J J J J J h.ql (fun T vt ds hT hd F=>by
  have:=F.set 42 (.int .i64 (x.left-1));rwa[Me hT h.ql]at this),afr⟩
 obtain⟨L,vt,ds,F,_,_,_,_,_,_,_,_,_,_,_,_,c42,_⟩:=h.cells;have d42:=F.K 42 c42;have f42:=F.frozen 42;clear F c42 h afr;generalize x.left=n at*;go_enter func225,ntmps225;exact qt
theorem Sx(v:Int)(W:World):(Instr.build 92 #[(0,.int .i64 v)]).run prog W= .ok (.agg (Value.int .i64 v::uw).toArray) W:=by kernel_rfl
theorem aaj(v:Int):∀u∈(Value.int .i64 v::uw:List Value),u.oneCell'=true:=by
 intro u hu;rcases List.mem_cons.1 hu with rfl|hu
 ·rfl
 ·exact(uA.zero default).one u hu
theorem GP.x{g:Nat}{x:Xc}{vd:Int}{m:vo}{L:Lt}{D:Option Nat}(h:GP g gl vn x eb vd m w e w')(hl:xT w gl L)(hg:g≠gl):e= .returned (.tuple #[])/\y9 g gl D ({x with done:=true,vd:=vd,xP:=m},L,[]) w (.returned tS) w':=by
 obtain⟨he,F,fr⟩:=h;exact⟨he,_,none,J,vI.nil _ _,⟨⟨fun h=>dY,fun h=>dY⟩,⟨vn,_,eb,_,F,fun _=>rfl,fun h=>dY⟩⟩,hl.fr fr (fun e=>hg e.symm),fr.mono (fun _ h=>.inl h),fun i h=>dY⟩
theorem Om(g gl:Nat)(vn:Value)(x:Xc)(L:Lt)(hs:Value)(eb:Bool)(qs:List Value)(dp:Option Nat)(w:World)(h:wM w g gl vn x hs eb qs dp)(hl:xT w gl L)(hst:x.st)(hdn:x.done=false)(hu:L.us<=999999990)(hd:L.ds.length<=17592186044416)(hsn:x.uz<=1000000):
  Calls prog 90 #[.pointer (some ⟨g,0,none⟩)] w (y9 g gl dp (Cp x L) w):=by
 obtain⟨R,hR⟩:=ao (Cp x L);rw[hR.out];obtain⟨lcs,hlc⟩:=xU hl;obtain⟨h2,vt,ds,F,hM,c4,c7,c9,c10,c13,c14,c15,c16,c17,c40,c41,c42,c43,c44,c45,c46,hT,hm⟩:=h.cells;have gne:=wJ F hlc ax;obtain⟨At,ct,hvt⟩:=hT.form;have d15:=F.K 15 c15;have d13:=F.K 13 c13;rw[hvt]at d13;have HK:=Y (F.K 7 c7);have HE:=Y (F.K 9 c9);have d44:=F.K 44 c44;have H:=Lib.hid h;have HLT:=Y hl;have HST:=Y hst;by_cases O:x.k<x.tr.length
 case neg=>
  have hk':(x.k:Int)>=x.tr.length:=I;have hk2:decide ((x.tr.length:Int)<=x.k)=true:=az;have HR:Hid (R=({x with done:=true,vd:=if x.hard then 5 else 4,xP:=vo.zero},L,[])):=Y (by rw[<-hR.out];unfold Cp;rw[if_neg O]);clear h hl hst hlc F hT hm c4 c7 c9 c10 c13 c14 c15 c16 c17 c40 c41 c42 c43 c44 c45 c46 hR hvt O;generalize x.tr.length=n at*;have HRF:Hid (x.hard=false->R=({x with done:=true,vd:=4,xP:=vo.zero},L,[])):=nZ;have HRT:Hid (x.hard=true->R=({x with done:=true,vd:=5,xP:=vo.zero},L,[])):=nZ;obtain⟨k,hkk⟩:∃k,k=x.k:=gp;rw[<-hkk]at d15 hk' hk2;obtain⟨hd,hhd⟩:∃hd,hd=x.hard:=gp;rw[<-hhd]at d44;have HHD:=Y hhd;clear hkk hhd HR;go_enter func90,ntmps90;go_wp2_with fail;go_quiet(fail);obtain⟨W,hW⟩:∃W,W=w.drewN nq:=gp;rw[<-hW];have HW:al w W:=kc;have e44:W.cell? ⟨g,44,none⟩=some (.bool hd):=hW▸d44;clear hW d44 d15 d13 hk' hk2;have RZ:=Y (fun V=>Sx 4 V);have zl:(Value.int .i64 4::uw:List Value).length=15:=jO;have zl0:(Value.int .i64 0::uw:List Value).length=15:=jO;have zl5:(Value.int .i64 5::uw:List Value).length=15:=jO;have zo:=aaj 4;have Z5:(Value.int .i64 4::uw:List Value).set 0 (.int .i64 5)=Value.int .i64 5::uw:=rfl;have F4:Hid (∀V,al w V->Calls prog 89 #[.pointer (some ⟨g,0,none⟩),.agg (Value.int .i64 4::uw).toArray] V (GP g gl vn x eb 4 vo.zero V)):=Y (fun V F=>D7 g gl vn x hs eb qs dp 4 uw vo.zero V (H.out.G F) (uA.zero _));have F5:Hid (∀V,al w V->Calls prog 89 #[.pointer (some ⟨g,0,none⟩),.agg (Value.int .i64 5::uw).toArray] V (GP g gl vn x eb 5 vo.zero V)):=Y (fun V F=>D7 g gl vn x hs eb qs dp 5 uw vo.zero V (H.out.G F) (uA.zero _));have BZ:=Z.new W 92 (Value.int .i64 0::uw);obtain⟨al8,hZ⟩:=ao (Value.int .i64 4::uw);obtain⟨avw,hY⟩:=ao (Value.int .i64 5::uw);rw[hZ.out]at RZ zl zo Z5 F4;rw[hY.out]at zl5 Z5 F5;have hWs:=HW.size;go_wp2_with(first
   |(refine tO (.build 92 #[(0,.const (.int .i64 4))]) rfl ?_;go_must(refine wl rfl 92 _ rfl #[(0,.int .i64 4)] ea (RZ.out _) ?_))
   |(refine tO (.store 92 (.tmp 3) (.tmp 14)) rfl (ab rfl W.heap.size 0 al8 BZ (by rw[zl,zl0];decide) (by rw[zl];exact z9) zo ?_)))
  intro w3 B3 g3 sw;clear sw;replace B3:=xG (L:=al8) B3 dK;have K3:al W w3:=jL;have H3:=tL HW HW.size K3;have d44:w3.cell? ⟨g,44,none⟩=some (.bool hd):=by rw[<-e44];exact World.cell?_of_block (K3.block _ (Nat.lt_of_lt_of_le H.out.lt HW.size))
  clear g3 e44 BZ RZ zo zl0 K3;generalize W.heap.size=gz at*;cases hd with
  |false=>have HR2:Hid (R=({x with done:=true,vd:=4,xP:=vo.zero},L,[])):=Y (HRF.out HHD.out.symm);have BV:=B3;have HV:=H3;have FV:=F4;have ZL:=zl;clear B3 H3 F4 F5 HRF HRT Z5 zl5 HHD;exact pr
  |true=>have HR2:Hid (R=({x with done:=true,vd:=5,xP:=vo.zero},L,[])):=Y (HRT.out HHD.out.symm);go_wp2_with(refine tO (.store 3 (.tmp 19) (.const (.int .i64 5))) J (af J gz 0 (.int .i64 5) B3 (by rw[zl];decide) uB ?_));intro w4 BV g4 sw;clear sw;have HV:al w w4:=tN H3 g4 H3.size hWs;have FV:=F5;have ZL:=zl5;clear B3 H3 F4 F5 HRF HRT Z5 zl HHD d44 g4;exact pr
 have HR:Hid (R=xM x L (if x.vc then 2 else 0)):=Y (by rw[<-hR.out];unfold Cp;rw[if_pos O]);have hk':¬(x.k:Int)>=x.tr.length:=I;have hk2:decide ((x.tr.length:Int)<=x.k)=false:=az;have CN:=Y (fun V F=>JA g gl vn x L hs eb qs dp V (H.out.G F) (HLT.out.G F) HST.out hdn O hu hd hsn);have SN:=Y (fun V F=>Sv g gl vn x L 0 hs eb x.ed qs dp V (H.out.G F) (HLT.out.G F) HST.out hdn O hu hd hsn ax ap);clear h hl hst hlc F hT hm c4 c7 c9 c10 c13 c14 c15 c16 c17 c40 c41 c42 c43 c44 c45 c46 hR hvt O d44 H HLT HST;generalize x.tr.length=n,x.k=k at*;generalize hvc:x.vc=vc at*;have HVC:=Y hvc;generalize x.ed=ed at*;go_enter func90,ntmps90;go_wp2_with fail;go_quiet(fail);obtain⟨W,hW⟩:∃W,W=w.drewN nq:=gp;rw[<-hW];have HW:al w W:=kc;have d7:W.cell? ⟨g,7,none⟩=some (.bool vc):=hW▸HK.out;have d9:W.cell? ⟨g,9,none⟩=some (.bool ed):=hW▸HE.out;have C1:=Y (CN.out W HW);have S1:=Y (SN.out W HW);have FW:Fr (XS g gl dp) w W:=Fr.G HW;have HFW:=Y FW;clear hW d15 d13 HK HE CN SN hvc FW;cases vc with
 |true=>clear S1;go_wp2_with fail;refine C1.out.mono ?_;intro e1 w1 hx;have hx:=hx.back HFW.out;obtain⟨v,D',rfl,hx2⟩:=hx;have HX:=Y hx2;clear hx2 hx;go_wp2_with fail;go_ret;rw[HR.out];exact pR
 |false=>clear C1;go_wp2_with fail;refine S1.out.mono ?_;intro e1 w1 hx;have hx:=hx.back HFW.out;obtain⟨v,D',rfl,hx2⟩:=hx;have HX:=Y hx2;clear hx2 hx;go_wp2_with fail;go_ret;rw[HR.out];exact pR
theorem EQ(g gl:Nat)(vn:Value)(x:Xc)(L:Lt)(hs:Value)(eb:Bool)(qs:List Value)(dp:Option Nat)(w:World)(h:wM w g gl vn x hs eb qs dp)(hl:xT w gl L)(hst:x.st)(hdn:x.done=false)(O:x.k<x.tr.length)(hu:L.us<=999999990)(hd:L.ds.length<=17592186044416)(hsn:x.uz<=1000000):
  Calls prog 226 #[.pointer (some ⟨g,0,none⟩)] w (y9 g gl dp (vZ x L) w):=by
 have afr:=uL w g 15 (.int .i64 ((x.k+1:Nat):Int));obtain⟨lcs,hlc⟩:=xU hl;have hkl:(x.k:Int)<=1000:=oi;have hk0:(0:Int)<=x.k:=I;have BG:Hid (Calls prog 90 #[.pointer (some ⟨g,0,none⟩)] (w.setCell ⟨g,15,none⟩ (.int .i64 ((x.k:Int)+1))) (y9 g gl dp (vZ x L) w)):=Y (by
  have e:(.int .i64 ((x.k:Int)+1))=Value.int .i64 ((x.k+1:Nat):Int):=lX;rw[e];have hX:wM (w.setCell ⟨g,15,none⟩ (.int .i64 ((x.k+1:Nat):Int))) g gl vn {x with k:=x.k+1} hs eb qs dp:=h.put afr J J J J J J h.ql (fun T vt ds hT hd F=>by
   have:=F.set 15 (.int .i64 ((x.k+1:Nat):Int));rwa[abI hT h.ql]at this)
  obtain⟨T,vt,ds,F,_⟩:=h.b;have gne:=wJ F hlc ax;have fr:Fr (fun i=>i=g) w (w.setCell ⟨g,15,none⟩ (.int .i64 ((x.k+1:Nat):Int))):=Fr.grown afr F (.inr (.inl J)) J;have:=Om g gl vn {x with k:=x.k+1} L hs eb qs dp _ hX (hl.fr fr (fun e=>gne e.symm)) ⟨hst.ips,hst.to1,hst.to2,hst.trl,hst.err⟩ hdn hu hd hsn;exact this.mono (fun e w' hx=>hx.back (fr.mono (fun _ h=>.inl h))))
 obtain⟨h2,vt,ds,F,_,_,_,_,_,_,_,c15,_⟩:=h.cells;have d15:=F.K 15 c15;have f15:=F.frozen 15;clear F c15 h hl hlc afr hst O;generalize vZ x L=R at*;generalize(x.k:Int)=k at*;go_enter func226,ntmps226;go_wp2_with fail;refine BG.out.mono ?_;rintro e1 w1 ⟨v,D',rfl,hx⟩;have HX:=Y hx;clear hx;go_wp2_with fail;go_ret;exact pR
theorem aak:(prog.info? 46).map (·.size)=some 10:=by kernel_rfl
theorem uA.head{ds:List Value}{m:vo}(h:uA w ds m):(ds.drop 0).take 10=m.hd.vJ:=by
 obtain⟨vq,va,vu,ve,rfl,_⟩:=h;rfl
theorem Mg(g gl:Nat)(vn:Value)(x:Xc)(L:Lt)(hs:Value)(conn:Bool)(qs:List Value)(dp:Option Nat)(ds:List Value)(m:vo)(w:World)(h:wM w g gl vn x hs x.yc qs dp)(hl:xT w gl L)(hst:x.st)(hdn:x.done=false)(O:x.k<x.tr.length)(hu:L.us<=999999990)(hd:L.ds.length<=17592186044416)(hsn:x.uz<=1000000)(hc:conn=decide (x.lg=2))(hm:uA w ds m):
  Calls prog 227 #[.pointer (some ⟨g,0,none⟩),.agg ds.toArray,.bool conn] w (y9 g gl dp (yC x L m) w):=by
 obtain⟨R,hR⟩:=ao (yC x L m);rw[hR.out];have hdl:=hm.len;have hhd:=hm.head;have HT:Hid (R=if xc m.hd conn x.yc=1 then({x with done:=true,vd:=yO x.q m,xP:=m},L,[])
  else if xc m.hd conn x.yc=2 then xM x L 2
  else if xc m.hd conn x.yc=3 then xM x L 1
  else if xc m.hd conn x.yc=5 then vZ {x with hard:=true} L
  else vZ x L):=Y (by rw[hc,<-hR.out];rfl)
 have VO:=Y (fun V=>abH m.hd conn x.yc V);obtain⟨lcs,hlc⟩:=xU hl;obtain⟨h2,vt,ds0,F,hM,c4,c7,c9,c10,c13,c14,c15,c16,c17,c40,c41,c42,c43,c44,c45,c46,hTr,hm0⟩:=h.cells;have gne:=wJ F hlc ax;have hgl:=F.lt;obtain⟨A,cA,hvn,hNR⟩:=h.nm.form;have hnl:=h.nm.2.1;have HLT:=Y hl;have HB:=Y F;have C10:Hid ((h2.drop 10).take 3=[.slice A x.q.name.length cA,.int .i64 x.q.E,.int .i64 x.q.N]):=Y (by rw[c10,hvn];rfl);have C40:=Y c40;have FI:=Y (fun V (hV:al w V)=>Xt x.q A cA ds m V (hNR.G hV) hnl (hm.G hV));have FN:=Y (fun V (hV:al w V)=>D7 g gl vn x hs x.yc qs dp (yO x.q m) ds m V (h.G hV) (hm.G hV));have CN:=Y (fun V F=>JA g gl vn x L hs x.yc qs dp V (h.G F) (hl.G F) hst hdn O hu hd hsn);have SN:=Y (fun V F=>Sv g gl vn x L 1 hs x.yc false qs dp V (h.G F) (hl.G F) hst hdn O hu hd hsn ax J);have NX:=Y (fun V F=>EQ g gl vn x L hs x.yc qs dp V (h.G F) (hl.G F) hst hdn O hu hd hsn);have NH:Hid (∀V,al w V->Calls prog 226 #[.pointer (some ⟨g,0,none⟩)] (V.setCell ⟨g,44,none⟩ (.bool true)) (y9 g gl dp (vZ {x with hard:=true} L) V)):=Y (fun V hV=>by
  have afr:=uL V g 44 (.bool true);have hX:wM (V.setCell ⟨g,44,none⟩ (.bool true)) g gl vn {x with hard:=true} hs x.yc qs dp:=(h.G hV).put afr J J J J J J h.ql (fun T vt ds hT hd F=>by
   have:=F.set 44 (.bool true);rwa[UA hT h.ql]at this)
  have fr:Fr (fun i=>i=g) V (V.setCell ⟨g,44,none⟩ (.bool true)):=Fr.grown afr (F.G hV F.lt) (.inr (.inl J)) J;exact(EQ g gl vn {x with hard:=true} L hs x.yc qs dp _ hX ((hl.G hV).fr fr (fun e=>gne e.symm)) ⟨hst.ips,hst.to1,hst.to2,hst.trl,hst.err⟩ hdn O hu hd hsn).mono (fun e w' hx=>hx.back (fr.mono (fun _ h=>.inl h))))
 have f44:∀V,al w V->V.frozen? ⟨g,44,none⟩=false:=fun V hV=>(F.G hV F.lt).frozen 44
 have akb:=Y f44;have D44:=Y (fun V (hV:al w V)=>(F.G hV F.lt).K 44 c44);have HX:Below w.heap.size w (w.alloc (.cells ds.toArray 50)):=gj;have BX:=Z.new w 50 ds;clear F hTr hm0 c4 c7 c9 c13 c14 c15 c16 c17 c40 c41 c42 c43 c44 c45 c46 hR h hl hst hc hm hlc hvn hNR f44;generalize xc m.hd conn x.yc=vv at*;generalize yO x.q m=fv at*;generalize x.yc=eb,m.hd.vJ=hv at*;obtain⟨gm,hgm⟩:∃gm,gm=w.heap.size:=gp;generalize x.q.name.length=nl at*;obtain⟨W0,hW0⟩:=ao (w.alloc (.cells ds.toArray 50));rw[hW0.out]at HX BX;go_enter func227,ntmps227;go_wp2_with fail;rw[hW0.out];refine wp_region_held_drew (S:=fun V=>al W0 V) (by kernel_rfl) (Below.refl _ _).drew (fun M=>?_);refine uh M 7 [0,1,2,3,4,5,6] J (by kernel_rfl) (fun _ _ _ _ _ h=>h) J J ?_;repeat(refine aj _ ?_;simp only[z])
 (refine ah _ J J (fun V hV=>(ul 46 (.tmp 7) ⟨w.heap.size,0,none⟩ J J ((BX.G hV BX.lt).wk 46 0 10 I _ underlying46 J aak _ hhd))) ?_;simp only[z])
 repeat(refine aj _ ?_;simp only[z])
 (refine ah _ J J (fun V hV=>(ul 4 (.tmp 12) ⟨g,40,none⟩ J J (tV underlying4 J ((HB.out.G (tL HX HX.size hV) hgl).K 40 C40.out)))) ?_;simp only[z])
 simp only[vx];refine uO 7 (some 14) 196 #[.agg hv.toArray,.bool conn,.bool eb] (by kernel_rfl) J J (by kernel_rfl) bm (VO.out _) ?_;rintro _ w4 ⟨rfl,b4⟩;have M:=tL M M.size b4;refine⟨_,J,M,?_⟩;simp only[z];refine wpAnyH_done (by kernel_rfl) ?_ _;have HW:=tL HX HX.size M;have BW:=BX.G M BX.lt;have FW:Hid (Fr (XS g gl dp) w w4):=Y (Fr.G HW);clear HX BX M b4 VO hhd C40;by_cases v1:vv=1
 case pos=>
  have HR2:Hid (R=({x with done:=true,vd:=fv,xP:=m},L,[])):=Y ff;subst v1;have LQ:∀V,al w V->(Instr.loadAt 28 (.pointer (some ⟨g,10,none⟩))).run prog V= .ok (.agg #[.slice A nl cA,.int .i64 x.q.E,.int .i64 x.q.N]) V:=fun V hV=>(HB.out.G hV hgl).wk 28 10 3 I _ underlying28 J xh _ C10.out
  have LQ2:Hid (∀V hs' eb' qs' dp',wM V g gl vn {x with done:=true,vd:=fv,xP:=m} hs' eb' qs' dp'->(Instr.loadAt 28 (.pointer (some ⟨g,10,none⟩))).run prog V= .ok (.agg #[.slice A nl cA,.int .i64 x.q.E,.int .i64 x.q.N]) V):=Y (fun V hs' eb' qs' dp' hV=>by
   obtain⟨M',vt',ds',hb',hM',_,_,_,ax7,_⟩:=hV.cells;exact hb'.wk 28 10 3 I _ underlying28 J xh _ (ax7.trans (c10.symm.trans C10.out)))
  have LM:∀V,Z V w.heap.size 50 ds->(Instr.loadAt 50 (.pointer (some ⟨w.heap.size,0,none⟩))).run prog V= .ok (.agg ds.toArray) V:=kx;have HLM:=Y LM;have HLQ:=Y LQ;have hWd:Below w.heap.size w w4.drew:=HW.drew;have hS0:=And.intro (LQ _ hWd) (LM _ BW.drew);clear HT CN SN NX NH akb D44 C10 LQ LM c10;go_wp2_with fail;refine wp_region_held_drew (S:=fun V=>(Instr.loadAt 28 (.pointer (some ⟨g,10,none⟩))).run prog V= .ok (.agg #[.slice A nl cA,.int .i64 x.q.E,.int .i64 x.q.N]) V/\(Instr.loadAt 50 (.pointer (some ⟨w.heap.size,0,none⟩))).run prog V= .ok (.agg ds.toArray) V) (by kernel_rfl) hS0 (fun M=>?_);refine uh M 6 [0,1,2,3,4,5] J (by kernel_rfl) (fun _ _ _ _ _ h=>h) J J ?_;repeat(refine aj _ ?_;simp only[z])
  (refine ah _ J J (fun V hV=>(ul 28 (.tmp 20) ⟨g,10,none⟩ J J hV.1)) ?_;simp only[z])
  (refine ah _ J J (fun V hV=>(ul 50 (.tmp 4) ⟨w.heap.size,0,none⟩ J J hV.2)) ?_;simp only[z])
  simp only[vx];refine um 6 (by kernel_rfl) ?_;refine vO 6 (some 23) 197 #[.agg #[.slice A nl cA,.int .i64 x.q.E,.int .i64 x.q.N],.agg ds.toArray] J J (by kernel_rfl) bm (FI.out _ hWd) ?_;rintro _ w5 ⟨rfl,b5⟩;have hW5:=tL hWd hWd.size b5;have BW5:Z w5 w.heap.size 50 ds:=BW.drew.G b5 BW.drew.lt;refine⟨_,J,⟨HLQ.out _ hW5,HLM.out _ BW5⟩,?_⟩;simp only[z];refine um 7 (by kernel_rfl) ?_;refine vO 7 (some 24) 89 #[.pointer (some ⟨g,0,none⟩),.agg (Value.int .i64 fv::ds).toArray] J J (by kernel_rfl) bm (FN.out _ hW5) ?_;intro e9 w9 hf;have B9:Z w9 w.heap.size 50 ds:=hf.2.2.uG BW5 I;have Q9:=LQ2.out w9 _ _ _ _ hf.2.1;obtain⟨he,hx⟩:=hf.x (L:=L) (D:=dp) (HLT.out.G hW5) gne;rw[he];have HX:=Y (hx.back (Fr.G hW5));refine⟨_,J,⟨Q9,HLM.out _ B9⟩,?_⟩;clear he hf hx FI FN LQ2 HLM HLQ M hS0 BW B9 Q9 BW5;simp only[z];refine wpAnyH_done (by kernel_rfl) ?_ _;go_wp2_with fail;go_ret;rw[HR2.out];exact HX.out
 have n1:(vv==1)=false:=by simpa using v1
 clear FI FN;by_cases v2:vv=2
 case pos=>have HR2:Hid (R=xM x L 2):=Y fg;subst v2;have C:=Y (CN.out _ HW);clear HT CN SN NX NH akb D44 BW v1;exact oD
 have n2:(vv==2)=false:=by simpa using v2
 by_cases v3:vv=3
 case pos=>have HR2:Hid (R=xM x L 1):=Y fh;subst v3;have C:=Y (SN.out _ HW);clear HT CN SN NX NH akb D44 BW v1 v2;exact oD
 have n3:(vv==3)=false:=by simpa using v3
 by_cases v5:vv=5
 case pos=>have HR2:Hid (R=vZ {x with hard:=true} L):=Y fi;subst v5;have C:=Y (NH.out _ HW);have f44:=akb.out _ HW;have d44:=D44.out _ HW;clear HT CN SN NX NH akb D44 BW v1 v2 v3;exact oD
 have n5:(vv==5)=false:=by simpa using v5
 have HR2:Hid (R=vZ x L):=Y fj;have C:=Y (NX.out _ HW);clear HT CN SN NX NH akb D44 BW v1 v2 v3 v5;exact oD
theorem ER:(prog.info? 42).map (·.size)=some 22:=by kernel_rfl
theorem ya.G{g:Nat}{D:Option Nat}{x:Xc}(h:ya w g gl D x)(k:al w w'):ya w' g gl D x:=by
 obtain⟨ok,vn,hs,eb,qs,F,U,X⟩:=h;refine⟨ok,vn,hs,eb,qs,F.G k,U,fun hd=>?_⟩;obtain⟨a,b,c,d,e⟩:=X hd;refine⟨a,b,c,d,fun hl=>?_⟩;obtain⟨gd,hg,hD⟩:=e hl;exact⟨gd,hg,hD.G k⟩
theorem ya.uG{g:Nat}{D:Option Nat}{x:Xc}(h:ya w g gl D x):∃L,Z w g 177 L:=by
 obtain⟨ok,vn,hs,eb,qs,F,_⟩:=h;obtain⟨T,vt,ds,F,_⟩:=F.b;exact⟨_,F⟩
theorem y9.none{g:Nat}{D:Option Nat}{x:Xc}{L:Lt}(h:ya w' g gl D x)(hl:xT w' gl L)(k:Fr (XS g gl D) w w'):y9 g gl D (x,L,[]) w (.returned tS) w':=⟨_,D,J,vI.nil _ _,h,hl,k,fun i hi=>.inl hi⟩
theorem PR(g gl:Nat)(D:Option Nat)(x:Xc)(L:Lt)(e:Ev)(w:World)(h:ya w g gl D x)(hl:xT w gl L)(hdn:x.done=false)(hlg:x.lg≠2)(ty:e.fr.ip.length=16)(hs:e.data.length<=maxLen)(hu:L.us<=999999990)(hd:L.ds.length<=17592186044416)(hsn:x.uz<=1000000):
  Calls prog 191 #[.pointer (some ⟨g,0,none⟩),.agg (xA e).toArray] w (y9 g gl D (wU x L e) w):=by
 obtain⟨R,hR⟩:=ao (wU x L e);rw[hR.out];have HT:Hid (R=if e.kind=1 then(if x.left<=1 then vZ {x with left:=x.left-1} L else({x with left:=x.left-1},L,[]))
  else if(A8 x.y e).2 then yC x L (A8 x.y e).1 else(x,L,[])):=Y (by rw[<-hR.out];unfold wU;rw[if_neg fk,if_neg hlg])
 have HAT:=Lib.hid h;obtain⟨ok,vn,hv,eb,qs,F,-,X⟩:=h;obtain⟨O,hl1,hl2,hyq,akP,-⟩:=ok.go hdn;have hst:=ok.st hdn;obtain⟨hhv,heb,hqs,hD,-⟩:=X hdn;have hD:=hD hlg;subst hD;subst heb;subst hqs;have agb:x.y.sv.ip.length=16:=mE;obtain⟨lcs,hlc⟩:=xU hl;obtain⟨T,vt,ds0,hbk,-⟩:=F.b;have gne:=wJ hbk hlc ax;clear hbk hlc T vt ds0;have hel:=Cv ty;have E0:(xA e)[0]?=some (.int .i64 e.kind):=rfl;have HB:=Y F;have HLT:=Y hl;have HST:=Y hst;have HOK:=Y ok;have hto:x.left<=30:=mJ;have HX:Below w.heap.size w (w.alloc (.cells (xA e).toArray 42)):=gj;have aeq:=Z.new w 42 (xA e);have HE:=Y aeq;have d0:=aeq.K 0 E0;obtain⟨A,cA,hvn,hNR⟩:=F.nm.form;rw[<-hyq]at hvn hNR;have PK:=Y (fun V (hV:al w V)=>Uf (xX vn x.y) x.y A cA e V (Ib.G ⟨by rw[hvn],agb,hNR⟩ hV) ty hs);have HVN:=Y hhv;clear hl hst ok hvn hNR hs hyq akP hR aeq;obtain⟨w1,hw1⟩:=ao (w.alloc (.cells (xA e).toArray 42));rw[hw1.out]at HX HE;have FX:Fr (XS g gl none) w w1:=Fr.G HX;by_cases hk1:e.kind=1
 case pos=>
  rw[if_pos hk1]at HT;have OV:=Y (Sw g gl vn x hv x.yc (xX vn x.y) none w1 (F.G HX) hl1 hto);unfold VL at OV;rw[hk1]at d0;clear hk1 PK HE F E0 X;by_cases hl0:x.left<=1
  case pos=>rw[if_pos hl0]at HT;rw[show decide (x.left-1<=0)=true by simp;omega]at OV;clear hl0;generalize xA e=es at*;go_enter func191,ntmps191;go_wp2_with fail;rw[hw1.out];refine OV.out.mono ?_;rintro _ w2 ⟨rfl,hb2,g2⟩;obtain⟨T,vt,ds0,hbk,_⟩:=(HB.out.G HX).b;have F2:=Fr.grown (S:=fun i=>i=g) g2 hbk (.inr (.inl J)) J;have hl2:=(HLT.out.G HX).fr F2 (fun e=>gne e.symm);have NX:=Y (EQ g gl vn {x with left:=x.left-1} L hv x.yc (xX vn x.y) none w2 hb2 hl2 ⟨HST.out.ips,HST.out.to1,HST.out.to2,HST.out.trl,HST.out.err⟩ hdn O hu hd hsn);have FF:=Y (FX.trans (F2.mono (S':=XS g gl none) (fun _ h=>.inl h)) (fun _ _ h=>h));clear hbk hb2 g2 F2 hl2 OV d0 FX;go_wp2_with fail;refine NX.out.mono ?_;intro e1 w9 hx;have hx:=hx.back FF.out;obtain⟨v,D',rfl,hx2⟩:=hx;have HX2:=Y hx2;clear hx2 hx;go_wp2_with fail;go_ret;rw[HT.out];exact sO
  case neg=>
   rw[if_neg hl0]at HT;rw[show decide (x.left-1<=0)=false by simp;omega]at OV;have HL:=Y hl0;clear hl0;generalize xA e=es at*;go_enter func191,ntmps191;go_wp2_with fail;rw[hw1.out];refine OV.out.mono ?_;rintro _ w2 ⟨rfl,hb2,g2⟩;obtain⟨T,vt,ds0,hbk,_⟩:=(HB.out.G HX).b;have F2:=Fr.grown (S:=fun i=>i=g) g2 hbk (.inr (.inl J)) J;have hl3:=(HLT.out.G HX).fr F2 (fun e=>gne e.symm);have FF:=FX.trans (F2.mono (S':=XS g gl none) (fun _ h=>.inl h)) (fun _ _ h=>h);have FIN:Hid (y9 g gl none ({x with left:=x.left-1},L,[]) w (.returned tS) w2):=Y (y9.none ⟨⟨fun _=>⟨HST.out.ips,HST.out.to1,HST.out.to2,HST.out.trl,HST.out.err⟩,fun h=>by
     obtain⟨k1,k2,k3,k4,k5,k6⟩:=HOK.out.go h;have:=HL.out;exact⟨k1,fZ,gh,k4,k5,k6⟩⟩,⟨vn,hv,_,_,hb2,fun _=>rfl,fun _=>⟨HVN.out,J,J,fun _=>rfl,fun h=>absurd h hlg⟩⟩⟩ hl3 FF)
   clear hbk hb2 g2 F2 hl3 OV d0 FX FF;exact rD
 rw[if_neg hk1]at HT;have aoJ:(e.kind==1)=false:=kV;obtain⟨h2,hM,hMl,_,_,m23,_,_⟩:=(F.G HX).qat agb;have LQ:∀V,al w1 V->(Instr.loadAt 37 (.pointer (some ⟨g,17,none⟩))).run prog V= .ok (.agg (xX vn x.y).toArray) V:=fun V hV=>(hM.G hV hM.lt).wk 37 17 23 I _ underlying37 J GH _ m23
 have LE:∀V,al w1 V->(Instr.loadAt 42 (.pointer (some ⟨w.heap.size,0,none⟩))).run prog V= .ok (.agg (xA e).toArray) V:=fun V hV=>(HE.out.G hV HE.out.lt).wk 42 0 22 I _ underlying42 J ER _ (wg I)
 have HLQ:=Y LQ;have HLE:=Y LE;clear hk1 F hM m23 LQ LE E0 X HE;generalize xX vn x.y=qs at*;generalize e.kind=kd at*;obtain⟨pp,hpp⟩:=ao (A8 x.y e);rw[hpp.out]at PK HT;generalize xA e=es at*;clear hel ty;go_enter func191,ntmps191;go_wp2_with fail;rw[hw1.out];go_upto_region 6 with fail;go_cut[5,6] (fun v5 v6 wx=>∃gm ds,v5= .pointer (some ⟨gm,0,none⟩)/\v6= .bool pp.2/\Z wx gm 50 ds/\uA wx ds pp.1/\al w1 wx)
 case first=>
  refine wp_region_held_drew (S:=fun V=>al w1 V) (by kernel_rfl) (Below.refl _ _).drew (fun M=>?_);refine uh M 5 [0,1,2,3,4] J (by kernel_rfl) (fun _ _ _ _ _ h=>h) J J ?_;repeat(refine aj _ ?_;simp only[z])
  (refine ah _ J J (fun V hV=>(ul 37 (.tmp 17) ⟨g,17,none⟩ J J (HLQ.out V hV))) ?_;simp only[z])
  (refine ah _ J J (fun V hV=>(ul 42 (.tmp 3) ⟨w.heap.size,0,none⟩ J J (HLE.out V hV))) ?_;simp only[z])
  simp only[vx];refine xu 5 9 (by kernel_rfl) ?_ ?_
  ·
   refine vO 5 (some 20) 228 #[.agg qs.toArray,.agg es.toArray] J J (by kernel_rfl) bm (PK.out _ (tL HX HX.size M)) ?_;rintro _ w3 ⟨ds,rfl,hM,b3⟩;have hdl:=hM.len;have hd1:=Y hM.one;have hS3:=tL M M.size b3;refine⟨_,J,hS3,?_⟩;clear M b3;have M:=hS3;clear hS3;simp only[z];refine uh M 3 [6,7,8] J (by kernel_rfl) (fun _ _ _ _ _ h=>h) J J ?_
   (refine aj (.tuple #[.agg ds.toArray,.bool pp.2]) ?_;simp only[z])
   (refine aj (.agg ds.toArray) ?_;simp only[z])
   (refine aj (.bool pp.2) ?_;simp only[z])
   simp only[vx];have kn:Below w3.heap.size w3 (w3.alloc (.cells uw.toArray 50)):=gj;have hS4:=tL M M.size kn;have hM4:=hM.G kn;have Bz:=Z.new w3 50 uw;have hz:w1.heap.size<=w3.heap.size:=lm;refine zF 9 (some 5) (by kernel_rfl) J J (by kernel_rfl) (v:=.pointer (some ⟨w3.heap.size,0,none⟩)) (w':=w3.alloc (.cells uw.toArray 50)) (by kernel_rfl) hS4 ?_;simp only[z];clear M hM kn;have M:=hS4;clear hS4;generalize w3.alloc (.cells uw.toArray 50)=wz at*;generalize w3.heap.size=gz at*;refine vz 10 none 50 (.tmp 5) (.tmp 21) (by kernel_rfl) J J J (by kernel_rfl) gz 0 J ds J Bz dK dJ hd1.out ?_;intro w8 B8 g8 zs;clear zs;replace B8:Z w8 gz 50 ds:=lk;have hM8:=hM4.uG g8 Bz;have hS8:al w1 w8:=iI;refine⟨hS8,?_⟩;clear M;have M:=hS8;simp only[z];refine uh M 1 [11] J (by kernel_rfl) (fun _ _ _ _ _ h=>h) J J ?_
   (refine aj (.bool pp.2) ?_;simp only[z])
   simp only[vx];refine wpAnyH_done (by kernel_rfl) ?_ _;exact pB
  ·
   have kn:Below w1.drew.heap.size w1.drew (w1.drew.alloc (.cells uw.toArray 50)):=gj;have hS4:=tL M M.size kn;have Bn:=Z.new w1.drew 50 uw;have hz:w1.heap.size<=w1.drew.heap.size:=lm;refine uM 9 (some 5) (v:=.pointer (some ⟨w1.drew.heap.size,0,none⟩)) (w':=w1.drew.alloc (.cells uw.toArray 50)) J J (by kernel_rfl) (by kernel_rfl) ?_;refine⟨hS4,?_⟩;clear M kn;have M:=hS4;clear hS4;simp only[z];generalize w1.drew.alloc (.cells uw.toArray 50)=wy at*;generalize w1.drew.heap.size=gz at*;refine uO 5 (some 20) 228 #[.agg qs.toArray,.agg es.toArray] (by kernel_rfl) J J (by kernel_rfl) bm (PK.out _ (tL HX HX.size M)) ?_;rintro _ w3 ⟨ds,rfl,hM4,b3⟩;have hdl:=hM4.len;have hd1:=Y hM4.one;have hS3:=tL M M.size b3;have Bz:=Bn.G b3 Bn.lt;refine⟨_,J,hS3,?_⟩;clear M b3 Bn;have M:=hS3;clear hS3;simp only[z];refine uh M 3 [6,7,8] J (by kernel_rfl) (fun _ _ _ _ _ h=>h) J J ?_
   (refine aj (.tuple #[.agg ds.toArray,.bool pp.2]) ?_;simp only[z])
   (refine aj (.agg ds.toArray) ?_;simp only[z])
   (refine aj (.bool pp.2) ?_;simp only[z])
   simp only[vx];refine vz 10 none 50 (.tmp 5) (.tmp 21) (by kernel_rfl) J J J (by kernel_rfl) gz 0 J ds J Bz dK dJ hd1.out ?_;intro w8 B8 g8 zs;clear zs;replace B8:Z w8 gz 50 ds:=lk;have hM8:=hM4.uG g8 Bz;have hS8:al w1 w8:=iI;refine⟨hS8,?_⟩;clear M;have M:=hS8;simp only[z];refine uh M 1 [11] J (by kernel_rfl) (fun _ _ _ _ _ h=>h) J J ?_
   (refine aj (.bool pp.2) ?_;simp only[z])
   simp only[vx];refine wpAnyH_done (by kernel_rfl) ?_ _;exact pB
 obtain⟨gm,ds,rfl,rfl,BM,hM5,H5⟩:=hcut;have hdl:=hM5.len;have HB5:=tL HX HX.size H5;have FB:=Y (Fr.G (S:=XS g gl none) HB5);have RP:=Y (Mg g gl vn x L hv false qs none ds pp.1 _ (HB.out.G HB5) (HLT.out.G HB5) HST.out hdn O hu hd hsn (by simp[hlg]) hM5);have FIN:=Y (y9.none (HAT.out.G HB5) (HLT.out.G HB5) FB.out);clear hM5 PK HLQ HLE d0 FX;cases hp2:pp.2 with
 |false=>rw[hp2]at HT;clear RP BM;exact rD
 |true=>rw[hp2]at HT;have HT2:Hid (R=yC x L pp.1):=Y (by rw[HT.out];rfl);clear FIN HT;go_wp2_with(refine tO (.load 50 (.tmp 5)) J ?_;go_must(refine tP J _ _ J gm 0 J BM 14 I _ underlying50 J ux ds (wg I) ?_));refine RP.out.mono ?_;intro e1 w9 hx;have hx:=hx.back FB.out;obtain⟨v,D',rfl,hx2⟩:=hx;have HX2:=Y hx2;clear hx2 hx RP;go_wp2_with fail;go_ret;rw[HT2.out];exact sO
theorem Fr.aeA{B:Nat}{e:TypeId}{s n:Nat}{xs:List Value}(h:Fr S w w')(ho:w.ownsRow B e s v n xs)(M:∀b,v.ownBlock=some b->¬S b):w'.ownsRow B e s v n xs:=by
 obtain⟨h0,ho⟩:=ho;refine⟨h0,?_⟩;rcases ho with ho|⟨g,cap,cur,hv,hB,hg,r⟩
 ·exact .inl ho
 ·exact .inr ⟨g,cap,cur,hv,hB,h.uG (g:=g) (t:=e) (cs:=cur.toList) hg (M g (by rw[hv];rfl)),r⟩
theorem vI.fr{l:List Ou}(h:vI lo w v l)(k:Fr S w w')(M:∀b,lo<=b->¬S b):vI lo w' v l:=by
 obtain⟨css,U,X⟩:=h;exact⟨css,k.aeA U (fun b F=>M b (yI U b F)),X⟩
theorem vI.PS{l:List Ou}(h:vI lo w v l){g:Nat}{t:TypeId}{L:List Value}(F:Z w g t L)(ht:t≠97):v.ownBlock≠some g:=by
 intro e;obtain⟨css,U,_⟩:=h;rcases U.2 with⟨hv,_⟩|⟨g',cap,cur,hv,_,hg,_⟩
 ·rw[hv]at e;cases e
 ·rw[hv]at e;injection e with e;have e:g'=g:=e;subst e;exact wJ (g:=g') (g':=g') (L':=cur.toList) F hg ht J
theorem vI.acy{l:List Ou}(h:vI lo w v l)(hg:w.grownBy w' v.ownBlock):Fr (fun i=>v.ownBlock=some i) w w':=by
 obtain⟨css,U,_⟩:=h;rcases U.2 with⟨hv,_⟩|⟨g',cap,cur,hv,_,F,_⟩
 ·subst hv;exact⟨hg.os,hg.tape,hg.output,hg.size,fun i hi=>.inl (hg.block i hi (by intro h;cases h))⟩
 ·subst hv;exact Fr.grown (g:=g') (cs:=cur.toList) hg F cQ J
theorem Mh{α:Type}{R:List Value->α->Prop}:∀{a b:List (List Value)} {l m:List α},Bh R a l->Bh R b m->Bh R (a++b) (l++m)
 |[],_,[],_,_,h=>h
 |_::_,_,_::_,_,h,k=>⟨h.1,Mh h.2 k⟩
theorem Io:∀{css:List (List Value)} {l:List Ou},Bh OuI css l->css.flatten.length=l.length*21/\∀u∈css.flatten,u.oneCell'=true
 |[],[],_=>⟨J,ap⟩
 |cs::css,o::l,h=>by
  obtain⟨U,X⟩:=Io h.2;refine⟨?_,fun u hu=>?_⟩
  ·simp only[List.flatten_cons,List.length_append,List.length_cons,U,h.1.len];omega
  ·
   rcases List.mem_append.1 hu with hu|hu
   ·rw[h.1.1]at hu;exact aby u hu
   ·exact X u hu
theorem yt(w:World){Q:Exit->Act->World->Prop}(hgd:o.guard=none)(s x:Operand)
  (ho:o.op= .call {callee:=.builtin .append,args:= #[s,x],argTypes:= #[34,34]}) {lo lo2:Nat} {v1 v2:Value} {o1 o2:List Ou} (hs:a.eval s=v1) (hx:a.eval x=v2) (U:vI lo w v1 o1) (X:vI lo2 w v2 o2) (tK:lo<=w.heap.size) (hl:o1.length+o2.length<=100000)
  (h:∀v' w',vI lo w' v' (o1++o2)->Fr (fun i=>v1.ownBlock=some i) w w'->wpList prog ops Q rest (a.put o.dst v') w'):wpList prog ops Q (o::rest) a w:=by
 have H1:=U;obtain⟨alo,w1,e1⟩:=U;obtain⟨aj8,w2,e2⟩:=X;obtain⟨l1,_⟩:=Io e1;obtain⟨l2,n2⟩:=Io e2;obtain⟨A2,c2,rfl⟩:=yg w2;refine zu w hgd s x 34 ho 97 (.agg ouZ.toArray) 21 64 underlying34 Kd (by kernel_rfl) ax lo v1 o1.length alo.flatten hs w1 tK A2 o2.length c2 aj8.flatten hx (fun hp=>?_) l2 n2 aJ I _ J ?_
 ·
  obtain⟨g,L,hA,F,hL,_⟩:=Dn w2 hp l2;refine⟨g,0,hA,fun j v hv=>?_⟩;rw[Nat.zero_add];refine F.K j ?_;rw[<-hL]at hv;rw[List.getElem?_take]at hv;split at hv
  ·exact hv
  ·cases hv
 ·intro A' c' w' ho' hg;refine h _ w' ⟨alo++aj8,?_,Mh e1 e2⟩ (H1.acy hg);rw[List.flatten_append,List.length_append];exact ho'
theorem yM.MJ{g:Nat}{d:Dl}(h:yM w g d):∃L,Z w g 152 L:=by
 obtain⟨p,hJ,_⟩:=h;obtain⟨vn,L,ds,F,_⟩:=hJ.uG;exact⟨L,F⟩
theorem ya.fr{g:Nat}{D:Option Nat}{x:Xc}(h:ya w g gl D x)(k:Fr S w w')(hg:¬S g)(hD:∀i L,D=some i->Z w i 152 L->¬S i):ya w' g gl D x:=by
 obtain⟨ok,vn,hs,eb,qs,F,U,X⟩:=h;refine⟨ok,vn,hs,eb,qs,F.fr k hg,U,fun hd=>?_⟩;obtain⟨a,b,c,d,e⟩:=X hd;refine⟨a,b,c,d,fun hl=>?_⟩;obtain⟨gd,hgd,hA⟩:=e hl;obtain⟨L,hL⟩:=hA.MJ;exact⟨gd,hgd,hA.fr k (hD gd L hgd hL)⟩
theorem y9.CY{g:Nat}{D D':Option Nat}{r:XR}{o:List Ou}{v1 v':Value}(hx:ya w1 g gl D' r.1)(hl:xT w1 gl r.2.1)(k:Fr (XS g gl D) w w1)(hD:∀i,D'=some i->D=some i\/w.heap.size<=i)(U:vI lo w1 v1 o)(tK:w.heap.size<=lo)(hv:vI lo w' v' (o++r.2.2))(f:Fr (fun i=>v1.ownBlock=some i) w1 w'):y9 g gl D (Eh o r) w (.returned v') w':=by
 obtain⟨Lg,hLg⟩:=hx.uG;obtain⟨Ll,hLl⟩:=xU hl;refine⟨v',D',J,hv.mono tK,hx.fr f (U.PS hLg ax) (fun i L hi F=>U.PS F ax),hl.fr f (U.PS hLl ax),k.trans f (fun i hi h=>?_),hD⟩;obtain⟨css,ho,_⟩:=U;have:=yI ho i h;omega
theorem Sy(d:Dl)(e:Ev):(uW d e).1.st=d.st\/(uW d e).1.st=1\/(uW d e).1.st=2:=by
 unfold uW
 (repeat' split)<;>simp
theorem Mi(g gl:Nat)(D:Option Nat)(x:Xc)(L:Lt)(e:Ev)(w:World)(h:ya w g gl D x)(hl:xT w gl L)(hdn:x.done=false)(hlg:x.lg=2)(ty:e.fr.ip.length=16)(hs:x.d.aA.length+e.data.length<=8796093022208)(hu:L.us<=999999990)(hd:L.ds.length<=17592186044416)(hsn:x.uz<=1000000):
  Calls prog 190 #[.pointer (some ⟨g,0,none⟩),.agg (xA e).toArray] w (y9 g gl D (wU x L e) w):=by
 obtain⟨R,hR⟩:=ao (wU x L e);rw[hR.out];have HT:Hid (R=if e.kind=1 then(if x.left<=1 then Eh (xB x.d).2 (vZ {x with left:=x.left-1,d:=(xB x.d).1} L)else({x with left:=x.left-1},L,[]))
  else if(uW x.d e).1.st=1 then Eh (uW x.d e).2 (yC {x with d:=(uW x.d e).1} L (uW x.d e).1.xP)
  else if(uW x.d e).1.st=2 then Eh (uW x.d e).2 (vZ {x with d:=(uW x.d e).1} L)
  else({x with d:=(uW x.d e).1},L,(uW x.d e).2)):=Y (by rw[<-hR.out];unfold wU;rw[if_neg fk,if_pos hlg])
 obtain⟨ok,vn,hv,eb,qs,F,-,X⟩:=h;obtain⟨O,hl1,hl2,hyq,akP,hdo⟩:=ok.go hdn;obtain⟨hds,hdy,hdk⟩:=hdo hlg;have hst:=ok.st hdn;obtain⟨hhv,heb,hqs,-,hDD⟩:=X hdn;obtain⟨gd,hD,hDA⟩:=hDD hlg;subst hD;subst heb;subst hqs;obtain⟨lcs,hlc⟩:=xU hl;obtain⟨h2,vt,ds0,hbk,hMl,_,_,_,_,_,_,_,_,_,_,c41,_⟩:=F.cells;have gne:=wJ hbk hlc ax;obtain⟨Ld,hLd⟩:=hDA.MJ;have gnd:=wJ hbk hLd ax;have lnd:=wJ hlc hLd ax;have ahU:=hbk.lt;have aFy:=hLd.lt;have aFb:=hlc.lt;have hel:=Cv ty;have E0:(xA e)[0]?=some (.int .i64 e.kind):=rfl;have HB:=Y F;have HLT:=Y hl;have HST:=Y hst;have HOK:=Y ok;have HDA:=Y hDA;have HHV:=Y hhv;have hto:x.left<=30:=mJ;have HX:Below w.heap.size w (w.alloc (.cells (xA e).toArray 42)):=gj;have aeq:=Z.new w 42 (xA e);have d0:=aeq.K 0 E0;have HE:=Y aeq;have HBK:=Y hbk;have hnd:=Y (IU x.d e);have hng:=Y (IV x.d);clear hl hst ok hR aeq hlc hLd hDA hbk X hDD;obtain⟨w1,hw1⟩:=ao (w.alloc (.cells (xA e).toArray 42));rw[hw1.out]at HX HE;have FX:Fr (XS g gl (some gd)) w w1:=Fr.G HX;by_cases hk1:e.kind=1
 case pos=>
  rw[if_pos hk1]at HT;have OV:=Y (Sw g gl vn x hv x.yc (xX vn x.y) (some gd) w1 (F.G HX) hl1 hto);unfold VL at OV;rw[hk1]at d0;clear hk1 HE F E0;by_cases hl0:x.left<=1
  case pos=>
   rw[if_pos hl0]at HT;rw[show decide (x.left-1<=0)=true by simp;omega]at OV;clear hl0 hnd;generalize xA e=es at*;go_enter func190,ntmps190;go_wp2_with fail;rw[hw1.out];refine OV.out.mono ?_;rintro _ w2 ⟨rfl,hb2,g2⟩;have F2:=Fr.grown (S:=fun i=>i=g) g2 (HBK.out.G HX ahU) (.inr (.inl J)) J;have hl3:=(HLT.out.G HX).fr F2 (fun e=>gne e.symm);have hD3:=(HDA.out.G HX).fr F2 (fun e=>gnd e.symm);have FF:=FX.trans (F2.mono (S':=XS g gl (some gd)) (fun _ h=>.inl h)) (fun _ _ h=>h);obtain⟨_,_,_,aso,_,_,_,_,_,_,_,_,_,_,_,as4,_⟩:=hb2.cells;have d41:=aso.K 41 as4;unfold Gg at d41;have HG:=Y (ZX gd x.d w2 hD3);obtain⟨Ld2,asP⟩:=hD3.MJ;clear OV aso as4 d0 FX F2 g2;go_wp2_with fail;refine HG.out.mono ?_;rintro _ w3 ⟨v1,rfl,hO1,axL,g3⟩;have F3:=Fr.grown (S:=fun i=>i=gd) g3 asP (.inl J) J;have hb3:=hb2.fr F3 gnd;have hl4:=hl3.fr F3 lnd;have tK:w.heap.size<=w2.heap.size:=FF.size;have NX:=Y (EQ g gl vn {x with left:=x.left-1,d:=(xB x.d).1} L hv x.yc (xX vn x.y) (some gd) w3 ⟨hb3.b,hb3.nm,hb3.ql⟩ hl4 ⟨HST.out.ips,HST.out.to1,HST.out.to2,HST.out.trl,HST.out.err⟩ hdn O hu hd hsn);have FG:=FF.trans (F3.mono (S':=XS g gl (some gd)) (fun i h=>.inr (.inr bK))) (fun _ _ h=>h);have nxl:(vZ {x with left:=x.left-1,d:=(xB x.d).1} L).2.2.length<=1:=AM _ _;have aE5:=hng.out;have awv:w2.heap.size<=w3.heap.size:=F3.size;have HR2:Hid (R=Eh (xB x.d).2 (vZ {x with left:=x.left-1,d:=(xB x.d).1} L)):=HT;clear HG hb2 hl3 hD3 g3 F3 hb3 hl4 axL d41 HT asP hng;generalize vZ {x with left:=x.left-1,d:=(xB x.d).1} L=r at*;go_wp2_with fail;refine NX.out.mono ?_;rintro _ w9 ⟨v2,D',rfl,hO2,hA9,hL9,hf9,hD9⟩;have O9:=hO1.fr hf9 (fun b F h=>by
    rcases h with h|h|h
    ·have:=FF.size;have:=ahU;omega
    ·have:=FF.size;omega
    ·
     injection h with h;have:=FF.size;omega)
   have F9:=FG.trans hf9 (fun _ _ h=>h);replace hD9:∀i,D'=some i->some gd=some i\/w.heap.size<=i:=jj;have hO9:=hO2;have ary:w3.heap.size<=w9.heap.size:=hf9.size;clear NX hO1 hO2 hf9 FF FG;go_wp2_with(at_builtin;go_must(refine yt _ J (.tmp 17) (.tmp 19) J J J O9 hO9 I I ?_));exact pK
  case neg=>
   rw[if_neg hl0]at HT;rw[show decide (x.left-1<=0)=false by simp;omega]at OV;have HL:=Y hl0;clear hl0 hnd hng;generalize xA e=es at*;go_enter func190,ntmps190;go_wp2_with fail;rw[hw1.out];refine OV.out.mono ?_;rintro _ w2 ⟨rfl,hb2,g2⟩;have F2:=Fr.grown (S:=fun i=>i=g) g2 (HBK.out.G HX ahU) (.inr (.inl J)) J;have hl3:=(HLT.out.G HX).fr F2 (fun e=>gne e.symm);have hD3:=(HDA.out.G HX).fr F2 (fun e=>gnd e.symm);have FF:=FX.trans (F2.mono (S':=XS g gl (some gd)) (fun _ h=>.inl h)) (fun _ _ h=>h);have FIN:Hid (y9 g gl (some gd) ({x with left:=x.left-1},L,[]) w (.returned tS) w2):=Y (y9.none ⟨⟨fun _=>⟨HST.out.ips,HST.out.to1,HST.out.to2,HST.out.trl,HST.out.err⟩,fun h=>by
     obtain⟨k1,k2,k3,k4,k5,k6⟩:=HOK.out.go h;have:=HL.out;exact⟨k1,fZ,gh,k4,k5,k6⟩⟩,⟨vn,hv,_,_,hb2,fun h=>absurd (show x.done=true from h) fk,fun _=>⟨HHV.out,J,J,fun h=>absurd hlg h,fun _=>⟨gd,J,hD3⟩⟩⟩⟩ hl3 FF)
   clear hb2 g2 F2 hl3 hD3 OV d0 FX FF;exact rD
 rw[if_neg hk1]at HT;have aoJ:(e.kind==1)=false:=kV;have LE:∀V,Z V w.heap.size 42 (xA e)->(Instr.loadAt 42 (.pointer (some ⟨w.heap.size,0,none⟩))).run prog V= .ok (.agg (xA e).toArray) V:=fun V hV=>hV.wk 42 0 22 I _ underlying42 J ER _ (wg I)
 have HLE:=Y LE;have HC:=Y (fun V (hV:al w V)=>Z3 gd x.d e V (HDA.out.G hV) ty hs);have dy:=VB x.d e;have dk:=RJ x.d e hdk;have DY:=Y (And.intro dy dk);unfold Kb at HC;clear hk1 LE E0 F hng dy dk;obtain⟨rd,hrd⟩:=ao (uW x.d e);rw[hrd.out]at HC HT hnd DY;generalize e.kind=kd at*;generalize xA e=es at*;clear hel ty hs;have B41:Z w1.drew g 177 h2:=(HBK.out.G HX ahU).drew;unfold Gg at c41;have C41:=Y c41;have hS0:(Instr.loadAt 33 (.pointer (some ⟨g,41,none⟩))).run prog w1.drew= .ok (.pointer (some ⟨gd,0,none⟩)) w1.drew/\Z w1.drew w.heap.size 42 es:=⟨tV underlying33 J (B41.K 41 c41),HE.out.drew⟩;clear c41;go_enter func190,ntmps190;go_wp2_with fail;rw[hw1.out];refine wp_region_held_drew (S:=fun V=>(Instr.loadAt 33 (.pointer (some ⟨g,41,none⟩))).run prog V= .ok (.pointer (some ⟨gd,0,none⟩)) V/\Z V w.heap.size 42 es) (by kernel_rfl) hS0 (fun M=>?_);refine uh M 5 [0,1,2,3,4] J (by kernel_rfl) (fun _ _ _ _ _ h=>h) J J ?_;repeat(refine aj _ ?_;simp only[z])
 (refine ah _ J J (fun V hV=>(ul 33 (.tmp 23) ⟨g,41,none⟩ J J hV.1)) ?_;simp only[z])
 (refine ah _ J J (fun V hV=>(ul 42 (.tmp 3) ⟨w.heap.size,0,none⟩ J J (HLE.out V hV.2))) ?_;simp only[z])
 simp only[vx];have hWd:Below w.heap.size w w1.drew:=HX.drew;obtain⟨Ld1,asQ⟩:=(HDA.out.G hWd).MJ;refine uO 5 (some 26) 18 #[.pointer (some ⟨gd,0,none⟩),.agg es.toArray] (by kernel_rfl) J J (by kernel_rfl) bm (HC.out _ hWd) ?_;rintro _ w3 ⟨v1,rfl,hO1,hD3,g3⟩;have azx:=B41.grown g3 (by intro e;injection e with e;exact gnd e);have BE3:=M.2.grown g3 fl;have d41:=azx.K 41 C41.out;have hS3:(Instr.loadAt 33 (.pointer (some ⟨g,41,none⟩))).run prog w3= .ok (.pointer (some ⟨gd,0,none⟩)) w3/\Z w3 w.heap.size 42 es:=⟨tV underlying33 J d41,BE3⟩;refine⟨_,J,hS3,?_⟩;have F3:=Fr.grown (S:=fun i=>i=gd) g3 asQ (.inl J) J;have hb3:=((HB.out.G hWd)).fr F3 gnd;have hl3:=(HLT.out.G hWd).fr F3 lnd;have tK:w.heap.size<=w1.drew.heap.size:=hWd.size;have awv:w1.drew.heap.size<=w3.heap.size:=F3.size;have FG:Fr (XS g gl (some gd)) w w3:=(Fr.G (S:=XS g gl (some gd)) hWd).trans (F3.mono (S':=XS g gl (some gd)) (fun i h=>.inr (.inr bK))) (fun _ _ h=>h);have DS:=Y (Uq gd rd.1 w3 hD3);have HD3:=Y hD3;have HB3:=Y hb3;have HL3:=Y hl3;have HO1:=Y hO1;have HFG:=Y FG;clear g3 asQ B41 BE3 M hS0 HC F3 hb3 hl3 hD3 hO1 FG;have M:=hS3;simp only[z];refine uh M 1 [6] J (by kernel_rfl) (fun _ _ _ _ _ h=>h) J J ?_
 (refine aj v1 ?_;simp only[z])
 simp only[vx];refine wpAnyH_done (by kernel_rfl) ?_ _;clear M hS3;go_wp2_with fail;refine DS.out.mono ?_;rintro _ w3' ⟨rfl,rfl⟩;clear DS;have STX:({x with d:=rd.1}:Xc).st:=⟨HST.out.ips,HST.out.to1,HST.out.to2,HST.out.trl,HST.out.err⟩;have apI:=Y STX;have XB3:wM w3 g gl vn {x with d:=rd.1} hv x.yc (xX vn x.y) (some gd):=⟨HB3.out.b,HB3.out.nm,HB3.out.ql⟩;have amR:=Y XB3;clear STX XB3;have aF8:=hnd.out;by_cases s1:rd.1.st=1
 case pos=>
  have HR2:Hid (R=Eh rd.2 (yC {x with d:=rd.1} L rd.1.xP)):=Y fo;rw[s1];have DM:=Y (ZW gd rd.1 w3 HD3.out);unfold ZV at DM;clear HT s1;go_wp2_with fail;refine DM.out.mono ?_;rintro _ w4 ⟨ds,rfl,hM4,b4⟩;have RP:=Y (Mg g gl vn {x with d:=rd.1} L hv true (xX vn x.y) (some gd) ds rd.1.xP w4 (amR.out.G b4) (HL3.out.G b4) apI.out hdn O hu hd hsn (by simp[hlg]) hM4);have O4:=HO1.out.G b4;have HO4:=Y O4;have F4:=HFG.out.trans (Fr.G (S:=XS g gl (some gd)) b4) (fun _ _ h=>h);have HF4:=Y F4;have aEL:w3.heap.size<=w4.heap.size:=b4.size;have nxl:(yC {x with d:=rd.1} L rd.1.xP).2.2.length<=1:=Fw _ _ _;clear DM hM4 b4 O4 F4 d41;generalize yC {x with d:=rd.1} L rd.1.xP=r at*;go_wp2_with fail;refine RP.out.mono ?_;rintro _ w9 ⟨v2,D',rfl,hO2,hA9,hL9,hf9,hD9⟩;have O9:=HO4.out.fr hf9 (fun b F h=>by
   rcases h with h|h|h
   ·omega
   ·omega
   ·
    injection h with h;omega)
  have F9:=HF4.out.trans hf9 (fun _ _ h=>h);replace hD9:∀i,D'=some i->some gd=some i\/w.heap.size<=i:=jj;have hO9:=hO2;have ary:w4.heap.size<=w9.heap.size:=hf9.size;clear RP hO2 hf9;go_wp2_with(at_builtin;go_must(refine yt _ J (.tmp 34) (.tmp 41) J J J O9 hO9 I I ?_));exact pK
 have s1':(rd.1.st==1)=false:=by simpa using s1
 by_cases s2:rd.1.st=2
 case pos=>
  have HR2:Hid (R=Eh rd.2 (vZ {x with d:=rd.1} L)):=Y (by rw[HT.out,if_neg s1,if_pos s2]);have NX:=Y (EQ g gl vn {x with d:=rd.1} L hv x.yc (xX vn x.y) (some gd) w3 amR.out HL3.out apI.out hdn O hu hd hsn);have nxl:(vZ {x with d:=rd.1} L).2.2.length<=1:=AM _ _;rw[s2];clear HT s1 s1' s2 d41;generalize vZ {x with d:=rd.1} L=r at*;go_wp2_with fail;refine NX.out.mono ?_;rintro _ w9 ⟨v2,D',rfl,hO2,hA9,hL9,hf9,hD9⟩;have O9:=HO1.out.fr hf9 (fun b F h=>by
   rcases h with h|h|h
   ·omega
   ·omega
   ·
    injection h with h;omega)
  have F9:=HFG.out.trans hf9 (fun _ _ h=>h);replace hD9:∀i,D'=some i->some gd=some i\/w.heap.size<=i:=jj;have hO9:=hO2;have ary:w3.heap.size<=w9.heap.size:=hf9.size;clear NX hO2 hf9;go_wp2_with(at_builtin;go_must(refine yt _ J (.tmp 45) (.tmp 47) J J J O9 hO9 I I ?_));exact pK
 have s2':(rd.1.st==2)=false:=by simpa using s2
 have HR2:Hid (R=({x with d:=rd.1},L,rd.2)):=Y (by rw[HT.out,if_neg s1,if_neg s2]);have FIN:Hid (y9 g gl (some gd) ({x with d:=rd.1},L,rd.2) w (.returned v1) w3):=Y (by
  have h0:rd.1.st=0:=by
   rcases Sy x.d e with h|h|h
   ·rw[hrd.out]at h;exact h.trans hds
   ·rw[hrd.out]at h;exact absurd h s1
   ·rw[hrd.out]at h;exact absurd h s2
  refine⟨v1,some gd,J,HO1.out.mono tK,⟨⟨fun _=>apI.out,fun h=>?_⟩,⟨vn,hv,_,_,amR.out,fun h=>?_,fun h=>?_⟩⟩,HL3.out,HFG.out,fun i hi=>.inl hi⟩
  ·obtain⟨k1,k2,k3,k4,k5,k6⟩:=HOK.out.go h;exact⟨k1,k2,k3,k4,k5,fun hl=>⟨h0,DY.out.1.trans hdy,DY.out.2⟩⟩
  ·rw[show x.done=true from h]at hdn;cases hdn
  ·
   exact⟨HHV.out,J,J,fun h=>absurd hlg h,fun _=>⟨gd,J,HD3.out⟩⟩)
 clear HT s1 s2 HD3 HB3 amR HL3 HO1 HFG d41;generalize rd.1.st=st at*;exact pN
theorem Mj{P:Program}{Q:Exit->Act->World->Prop}(hw:Region.wanted o (yielded ops a.tmps)=true)(hx:(execOp a.eval o).run P w= .ok (.value v) w)(h:wpList P ops Q rest (a.put o.dst v) w):wpList P ops Q (o::rest) a w:=by
 unfold wpList;rw[if_pos hw];left;unfold Oper.wp;rw[hx];exact h
theorem Mk{x:Xc}(h:x.done=true)(L:Lt)(e:Ev):wU x L e=(x,L,[]):=by unfold wU;rw[if_pos h]
theorem I6(g gl:Nat)(D:Option Nat)(x:Xc)(L:Lt)(e:Ev)(w:World)(h:ya w g gl D x)(hl:xT w gl L)(ty:e.fr.ip.length=16)(hs:x.d.aA.length+e.data.length<=8796093022208)(hu:L.us<=999999990)(hd:L.ds.length<=17592186044416)(hsn:x.uz<=1000000):
  Calls prog 36 #[.pointer (some ⟨g,0,none⟩),.agg (xA e).toArray] w (y9 g gl D (wU x L e) w):=by
 obtain⟨R,hR⟩:=ao (wU x L e);rw[hR.out];have hel:=Cv ty;have HX:Below w.heap.size w (w.alloc (.cells (xA e).toArray 42)):=gj;have aeq:=Z.new w 42 (xA e);have HAT:=Lib.hid h;have HLT:=Y hl;obtain⟨ok,vn,hv,eb,qs,F,U,X⟩:=h;obtain⟨h2,vt,ds0,hbk,hMl,_,_,_,_,_,_,_,c16,_,_,_,_,_,_,c45,_⟩:=F.cells;have ahU:=hbk.lt;have HBK:=Y hbk;have d16:=(hbk.G HX ahU).K 16 c16;have d45:=(hbk.G HX ahU).K 45 c45;have C16:=Y c16;cases hdn:x.done with
 |true=>rw[hdn]at d45;have HR2:Hid (R=(x,L,[])):=Y (by rw[<-hR.out,Mk hdn]);have FIN:=Y (y9.none (HAT.out.G HX) (HLT.out.G HX) (Fr.G (S:=XS g gl D) HX));clear X hR hl F hbk c16 c45 aeq U ok d16;generalize xA e=es at*;go_enter func36,ntmps36;exact pN
 |false=>
 rw[hdn]at d45;obtain⟨hhv,_⟩:=X hdn;obtain⟨f,hf,CF,CL⟩:∃f,hv= .func (.func f) #[] #[]/\Hid (∀V a b,(callFunc f #[a,b]).run prog V= .ok (.enter f #[a,b]) V)/\Hid (∀V,al w V->Calls prog f #[.pointer (some ⟨g,0,none⟩),.agg (xA e).toArray] V (y9 g gl D R V)):=by
  rw[<-hR.out];unfold UH at hhv;by_cases hlg:x.lg=2
  ·rw[if_pos hlg]at hhv;exact⟨_,hhv,Y (fun V a b=>by kernel_rfl),Y (fun V hV=>Mi g gl D x L e V (HAT.out.G hV) (hl.G hV) hdn hlg ty hs hu hd hsn)⟩
  ·rw[if_neg hlg]at hhv;exact⟨_,hhv,Y (fun V a b=>by kernel_rfl),Y (fun V hV=>PR g gl D x L e V (HAT.out.G hV) (hl.G hV) hdn hlg ty aJ hu hd hsn)⟩
 rw[hf]at d16 C16;have HE:=Y aeq;have LE:Hid (∀V,Z V w.heap.size 42 (xA e)->(Instr.loadAt 42 (.pointer (some ⟨w.heap.size,0,none⟩))).run prog V= .ok (.agg (xA e).toArray) V):=ke;clear X hR hl F hbk c16 c45 aeq U ok hhv HAT ty hs hel hdn;generalize xA e=es at*;obtain⟨w1,hw1⟩:=ao (w.alloc (.cells es.toArray 42));rw[hw1.out]at HX HE;go_enter func36,ntmps36;go_wp2_with(refine tO (.binOp .eql 175 (.tmp 17) (.const .nilFunc) 175) J ?_;go_must(refine Mj (v:=.bool false) bm (by kernel_rfl) ?_));rw[hw1.out];have hWd:Below w.heap.size w w1.drew:=HX.drew;have hS0:(Instr.loadAt 175 (.pointer (some ⟨g,16,none⟩))).run prog w1.drew= .ok (.func (.func f) #[] #[]) w1.drew/\(Instr.loadAt 42 (.pointer (some ⟨w.heap.size,0,none⟩))).run prog w1.drew= .ok (.agg es.toArray) w1.drew:=⟨tV underlying175 J ((HBK.out.G hWd ahU).K 16 C16.out),LE.out _ HE.out.drew⟩;obtain⟨hS1,hS2⟩:=hS0;have CC:=Y (CL.out _ hWd);have FW:=Y (Fr.G (S:=XS g gl D) hWd);have H1:=Y hS1;have H2:=Y hS2;clear hS1 hS2 CL LE HE HBK C16 HX d16 d45 HLT;refine wp_region_held_drew (S:=fun _=>True) (by kernel_rfl) trivial (fun M=>?_);refine uh M 4 [0,1,2,4] J (by kernel_rfl) (fun _ _ _ _ _ h=>h) J J ?_;repeat(refine aj _ ?_;simp only[z])
 simp only[vx];refine xu 3 5 (by kernel_rfl) ?_ ?_
 ·
  refine xv 3 (some 23) 175 (.tmp 22) ⟨g,16,none⟩ J J J J (by kernel_rfl) H1.out ?_;refine⟨trivial,?_⟩;simp only[z];refine um 5 (by kernel_rfl) ?_;refine xv 5 (some 25) 42 (.tmp 3) ⟨w.heap.size,0,none⟩ J J J J (by kernel_rfl) H2.out ?_;refine⟨trivial,?_⟩;simp only[z];refine um 6 (by kernel_rfl) ?_;refine vO 6 (some 26) f #[.pointer (some ⟨g,0,none⟩),.agg es.toArray] J J (by kernel_rfl) ft CC.out ?_;intro e9 w9 hx;have hx:=hx.back FW.out;obtain⟨v,D',rfl,hx2⟩:=hx;have HX2:=Y hx2;clear hx hx2;refine⟨_,J,trivial,?_⟩;simp only[z];refine uh M 1 [7] J (by kernel_rfl) (fun _ _ _ _ _ h=>h) J J ?_
  (refine aj v ?_;simp only[z])
  simp only[vx];refine wpAnyH_done (by kernel_rfl) ?_ _;go_wp2_with fail;go_ret;exact sO
 ·
  refine xv 5 (some 25) 42 (.tmp 3) ⟨w.heap.size,0,none⟩ J J J J (by kernel_rfl) H2.out ?_;refine⟨trivial,?_⟩;simp only[z];refine um 3 (by kernel_rfl) ?_;refine xv 3 (some 23) 175 (.tmp 22) ⟨g,16,none⟩ J J J J (by kernel_rfl) H1.out ?_;refine⟨trivial,?_⟩;simp only[z];refine um 6 (by kernel_rfl) ?_;refine vO 6 (some 26) f #[.pointer (some ⟨g,0,none⟩),.agg es.toArray] J J (by kernel_rfl) ft CC.out ?_;intro e9 w9 hx;have hx:=hx.back FW.out;obtain⟨v,D',rfl,hx2⟩:=hx;have HX2:=Y hx2;clear hx hx2;refine⟨_,J,trivial,?_⟩;simp only[z];refine uh M 1 [7] J (by kernel_rfl) (fun _ _ _ _ _ h=>h) J J ?_
  (refine aj v ?_;simp only[z])
  simp only[vx];refine wpAnyH_done (by kernel_rfl) ?_ _;go_wp2_with fail;go_ret;exact sO
def aal(vd:Int)(m:vo)(w:World)(e:Ending)(w':World):Prop:=∃ds,e= .returned (.agg (Value.int .i64 vd::ds).toArray)/\uA w' ds m/\al w w'
theorem ES(g gl:Nat)(D:Option Nat)(x:Xc)(w:World)(h:ya w g gl D x):Calls prog 40 #[.pointer (some ⟨g,0,none⟩)] w (aal x.vd x.xP w):=by
 obtain⟨ok,vn,hv,eb,qs,F,-,-⟩:=h;obtain⟨h2,vt,ds,hbk,hMl,_,_,_,_,_,_,_,_,_,_,_,_,_,_,_,c46,_,hM⟩:=F.cells;have hdl:=hM.len;have hO1:∀v∈(Value.int .i64 x.vd::ds:List Value),v.oneCell'=true:=by exact sP
 have aoG:(Value.int .i64 x.vd::ds:List Value).length=15:=kC;have HM:=Y hM;have ahU:=hbk.lt;clear F ok hM;generalize x.xP=m,x.vd=vd at*;obtain⟨aek,hO⟩:=ao (Value.int .i64 vd::ds);rw[hO.out]at c46 hO1 aoG;have HX:Below w.heap.size w (w.alloc (.cells (Value.int .i64 0::uw).toArray 92)):=gj;have BZ:=Z.new w 92 (Value.int .i64 0::uw);have zl0:(Value.int .i64 0::uw:List Value).length=15:=jO;have BX:=hbk.G HX ahU;go_enter func40,ntmps40;go_wp2_with(first
  |(refine tO (.load 92 (.tmp 8)) rfl ?_;go_must(refine tP rfl _ _ rfl g 46 rfl BX 15 I _ underlying92 rfl z9 aek c46 ?_))
  |(refine tO (.store 92 (.tmp 2) (.tmp 9)) rfl (ab rfl w.heap.size 0 aek BZ (by rw[aoG,zl0];decide) fw hO1 ?_)))
 intro w2 B2 g2 sw;clear sw;replace B2:=xG (L:=aek) B2 dK;have H2:=tN HX g2 HX.size (Nat.le_refl _);have FIN:Hid (aal vd m w (.returned (.agg aek.toArray)) w2):=Y ⟨ds,by rw[hO.out],HM.out.G H2,H2⟩;clear BX BZ HX g2 H2 hO HM c46;go_wp2_with fail;refine wQ J w.heap.size J B2 _ underlying92 J fw J ?_;exact FIN.out
end Go.Proofs.YthnbcmlnpdabhaaGreat
