/-
  Layer 29 (xchg):leg,over,finish;Done,Sent.
-/
import Derived.Test.YthnbcmlnpdabhaaGreatIFz
namespace Go.Proofs.YthnbcmlnpdabhaaGreat
open _root_.Go.Proofs.Tryz
set_option maxHeartbeats 8000000
open Go.RowKit
set_option maxRecDepth 100000
set_option linter.unusedVariables false
set_option linter.unusedSimpArgs false
variable {w:World} {g gl:Nat} {vn hs:Value} {eb:Bool} {qs:List Value}
theorem wM.cells{x:Xc}{dp:Option Nat}(h:wM w g gl vn x hs eb qs dp):∃L vt ds,Z w g 177 L/\L.length=61/\L[4]?=some (.int .i64 x.hS)/\L[7]?=some (.bool x.vc)/\L[9]?=some (.bool x.ed)/\(L.drop 10).take 3=qC vn x.q/\L[13]?=some vt/\L[14]?=some (.pointer (some ⟨gl,0,none⟩))/\L[15]?=some (.int .i64 x.k)/\L[16]?=some hs/\(L.drop 17).take 23=qs/\L[40]?=some (.bool eb)/\L[41]?=some (Gg dp)/\L[42]?=some (.int .i64 x.left)/\L[43]?=some (.int .i64 x.uz)/\L[44]?=some (.bool x.hard)/\L[45]?=some (.bool x.done)/\(L.drop 46).take 15= .int .i64 x.vd::ds/\LX w 0 vt x.tr/\uA w ds x.xP:=by
 obtain⟨T,vt,ds,F,U,X,h3,h4,h5,h6⟩:=h.b;have hq:=h.ql;refine⟨_,vt,ds,F,by rw[AV U hq,h6.len],by rw[Im U hq 4 I];exact X,by rw[Im U hq 7 I];exact h3,by rw[Im U hq 9 I];exact h4,adr U hq,EP U hq 0 I,EP U hq 1 I,EP U hq 2 I,EP U hq 3 I,aey U hq,DZ U hq 0 I,DZ U hq 1 I,DZ U hq 2 I,DZ U hq 3 I,DZ U hq 4 I,DZ U hq 5 I,?_,h5,h6⟩;rw[ads U hq,List.take_of_length_le (by rw[h6.len];decide)]
theorem aac{x:Xc}{dp:Option Nat}(h:wM w g gl vn x hs eb qs dp):Calls prog 38 #[.pointer (some ⟨g,0,none⟩)] w (yi (.bool x.done) w):=by
 obtain⟨L,vt,ds,F,_,_,_,_,_,_,_,_,_,_,_,_,_,_,_,c45,_⟩:=h.cells;have d45:=F.K 45 c45;clear F c45 h;generalize x.done=dn at*;go_enter func38,ntmps38;exact oU
theorem aad{x:Xc}{dp:Option Nat}(h:wM w g gl vn x hs eb qs dp):Calls prog 39 #[.pointer (some ⟨g,0,none⟩)] w (yi (.int .i64 x.uz) w):=by
 obtain⟨L,vt,ds,F,_,_,_,_,_,_,_,_,_,_,_,_,_,c43,_⟩:=h.cells;have d43:=F.K 43 c43;clear F c43 h;generalize(x.uz:Int)=dn at*;go_enter func39,ntmps39;exact oU
theorem wJ{g':Nat}{t t':TypeId}{L L':List Value}(h:Z w g t L)(h':Z w g' t' L')(ht:t≠t'):g≠g':=by
 intro e;subst e;unfold Z at h h';rw[h]at h';injection h' with h';injection h' with _ h';exact ht h'
theorem uy.aae{α:Type}{B:Nat}{e:TypeId}{k c:Nat}{R:List Value->α->Prop}{l:List α}(h:uy w B e k R (.slice (some ⟨g,0,none⟩) l.length c) l)(hp:0<l.length):∃L,Z w g e L:=by
 obtain⟨css,ho,_⟩:=h;rcases ho.2 with⟨_,h0⟩|⟨g',cap,cur,hv,_,hg,_⟩
 ·omega
 ·injection hv with hv _ _;injection hv with hv;injection hv with hv;subst hv;exact⟨cur.toList,hg⟩
theorem aez:(prog.info? 249).map (·.size)=some 19:=by kernel_rfl
theorem UF{b o:Nat}{a c:List Value}(h:w.rangeAt b o (a++c)):w.rangeAt b o a:=fun j v hv=>h j v (by rw[List.getElem?_append_left (List.getElem?_eq_some_iff.1 hv).1];exact hv)
theorem xU{L:Lt}(h:xT w g L):∃cs,Z w g 180 cs:=by obtain⟨v,h,_⟩:=h;exact⟨_,h⟩
def LS(g gl:Nat)(i:Nat):Prop:=i=g\/i=gl
def PM(g gl:Nat)(vn:Value)(x:Xc)(L:Lt)(hs:Value)(eb:Bool)(dp:Option Nat)(w:World)(e:Ending)(w':World):Prop:=e= .returned (.tuple #[])/\wM w' g gl vn {x with y:=xZ x L,left:=x.hS,uz:=x.uz+1} hs eb (xX vn (xZ x L)) dp/\xT w' gl (GL L)/\Fr (LS g gl) w w'
theorem VK(g gl:Nat)(vn:Value)(x:Xc)(L:Lt)(hs:Value)(eb0 eb:Bool)(qs:List Value)(dp:Option Nat)(w:World)(h:wM w g gl vn x hs eb0 qs dp)(hl:xT w gl L)(O:x.k<x.tr.length)(hu:L.us<=999999990)(hd:L.ds.length<=17592186044416)(hsn:x.uz<=1000000)(htr:x.tr.length<=1000):
  Calls prog 189 #[.pointer (some ⟨g,0,none⟩),.bool eb] w (PM g gl vn x L hs eb dp w):=by
 have hq:=h.ql;obtain⟨vnA,vnc,hvn,hNR⟩:=h.nm.form;obtain⟨T,vt,ds,F,U,X,h3,h4,h5,h6⟩:=h.b;obtain⟨lc,hlb⟩:=xU hl;have gne:=wJ F hlb ax;have hY:Hid (x.tr.getD x.k uV.zero=x.tr[x.k]):=Y (by rw[List.getD_eq_getElem?_getD,List.getElem?_eq_getElem O];rfl);obtain⟨p1,p2⟩:=Fp L (show(0:Int)<64512 by decide);obtain⟨q1,q2⟩:=Fp (wZ L 64512).2 (show(0:Int)<65536 by decide);have D1:=Y (Q6 gl L 64512 w hl ax ax I hd);have D2:=Y (fun W h=>Q6 gl (wZ L 64512).2 65536 W h ax ax eR hd);obtain⟨R1,hR1⟩:=ao (wZ L 64512);rw[hR1.out]at D1 D2 p1 p2 q1 q2;obtain⟨R2,hR2⟩:=ao (wZ R1.2 65536);rw[hR2.out]at D2 q1 q2;have HYP:Hid (xZ x L=⟨x.tr[x.k],1024+R1.1,R2.1,x.q⟩/\GL L=R2.2):=Y ⟨by unfold xZ;rw[hY.out,hR1.out,hR2.out],by unfold GL;rw[hR1.out,hR2.out]⟩;have d14:=F.K 14 (EP U hq 1 I);have PUT:=Y (fun w' (hg:Fr (LS g gl) w w') (hs':Value) (eb':Bool) (qs':List Value) (hq':qs'.length=23) (hb':Z w' g 177 (zC T vn x.q vt gl x.k hs qs' eb' dp x.hS (x.uz+1) x.hard x.done x.vd ds))=>(⟨⟨T,vt,ds,hb',U,X,h3,h4,hg.I5 h5 cQ,hg.xP h6⟩,h.nm.ue hg.ue,hq'⟩:wM w' g gl vn {x with y:=xZ x L,left:=x.hS,uz:=x.uz+1} hs eb' qs' dp));have HB:=Y F;have H5:=Y h5;have HLB:=Y hlb;clear hl h6 h hR1 hR2 hY hu hd hNR F h5 hlb;go_enter func189,ntmps189;go_wp2_with fail;refine D1.out.mono ?_;rintro _ w1 ⟨rfl,l1,g1⟩;have hb1:=HB.out.grown g1 (by simp;exact gne);have F1:Fr (LS g gl) w w1:=Fr.grown g1 HLB.out (.inr (.inr (.inl J))) (.inr J);have e14:=hb1.K 14 (EP U hq 1 I);have D2':=Y (D2.out w1 l1);obtain⟨lc1,ar0⟩:=xU l1;clear d14 D1 D2 g1 l1;generalize R1.1=pp at*;go_wp2_with fail;refine D2'.out.mono ?_;rintro _ w2 ⟨rfl,l2,g2⟩;have hb2:=hb1.grown g2 (by simp;exact gne);have F2:Fr (LS g gl) w w2:=F1.trans (Fr.grown g2 ar0 (.inr (.inr (.inl J))) (.inr J)) (fun i _ h=>h);have h5:=F2.I5 H5.out cQ;clear e14 D2' g2 ar0 F1 H5 HLB hb1 HB;obtain⟨At,ct,hvt⟩:=h5.form;subst hvt;obtain⟨gt,hAt,hgt,aht⟩:=uy.ud (fun _ _ h=>h.len) h5 I;obtain⟨tc,hrg,rr,htc,ty⟩:=aht x.k O;subst hAt;rw[htc]at hrg;have hrg:=UF hrg;obtain⟨gc,hgb⟩:=uy.aae h5 I;have aw5:=wJ hgb hb2 ax;clear htc aht h5 hgb;generalize R2.1=ii at*;obtain⟨yy,hyy⟩:∃yy:Qy,yy=⟨x.tr[x.k],1024+pp,ii,x.q⟩:=gp;have hyi:yy.sv.ip.length=16:=by rw[hyy];exact ty
 have hql:(xX vn yy).length=23:=xi hyi;have hqo:∀v∈xX vn yy,v.oneCell'=true:=Vx (by rw[hvn];rfl);have RB:Hid (∀W,(Instr.build 37 #[(0,.agg x.tr[x.k].cells.toArray),(1,.int .i64 (1024+pp)),(2,.int .i64 ii),(3,.agg (qC vn x.q).toArray)]).run prog W= .ok (.agg (xX vn yy).toArray) W):=Y (fun W=>by rw[hyy,hvn];exact abw ⟨x.tr[x.k],1024+pp,ii,x.q⟩ ty vnA _ vnc W);have HYY:=Y hyy;have e1:Hid (x.tr[x.k].cells.length=18):=Y (uV.ur _ ty);clear hyy ty hyi hvn;have LDS:∀(V:World) (qs':List Value),qs'.length=23->Z V g 177 (zC T vn x.q (.slice (some ⟨gt,0,none⟩) x.tr.length ct) gl x.k hs qs' eb0 dp x.left x.uz x.hard x.done x.vd ds)->V.rangeAt gt (0+x.k*19) x.tr[x.k].cells->
   (Instr.loadAt 173 (.pointer (some ⟨g,13,none⟩))).run prog V= .ok (.slice (some ⟨gt,0,none⟩) x.tr.length ct) V/\(Instr.loadAt 3 (.pointer (some ⟨g,15,none⟩))).run prog V= .ok (.int .i64 x.k) V/\(Instr.loadAt 24 (.pointer (some ⟨gt,0+x.k*19,none⟩))).run prog V= .ok (.agg x.tr[x.k].cells.toArray) V/\(Instr.loadAt 28 (.pointer (some ⟨g,10,none⟩))).run prog V= .ok (.agg (qC vn x.q).toArray) V:=fun V qs' hq' hbV hrV=>
  ⟨tV underlying173 J (hbV.K 13 (EP U hq' 0 I)),tV underlying3 J (hbV.K 15 (EP U hq' 2 I)),yo hrV underlying24 J eS,hbV.wk 28 10 3 (by rw[AV U hq'];omega) _ underlying28 J xh _ (adr U hq')⟩
 have HL:=Y LDS;clear LDS;generalize hac:x.tr[x.k].cells=ac at*;clear hac;obtain⟨W2,hW2⟩:∃W2,W2=w2.drew:=gp;have alc:Z W2 g 177 (zC T vn x.q (.slice (some ⟨gt,0,none⟩) x.tr.length ct) gl x.k hs qs eb0 dp x.left x.uz x.hard x.done x.vd ds):=hW2▸hb2.drew;have l2d:xT W2 gl R2.2:=hW2▸l2.G (Below.refl _ _).drew;have F2d:Fr (LS g gl) w W2:=hW2▸F2.trans (Fr.G (S:=LS g gl) (Below.refl _ _).drew) (fun i _ h=>h);have aoo:W2.rangeAt gt (0+x.k*19) ac:=hW2▸hrg;have HS:=Y (HL.out _ qs hq alc aoo);go_wp2_with fail;refine wp_region_held_drew (S:=fun V=>(Instr.loadAt 173 (.pointer (some ⟨g,13,none⟩))).run prog V= .ok (.slice (some ⟨gt,0,none⟩) x.tr.length ct) V/\(Instr.loadAt 3 (.pointer (some ⟨g,15,none⟩))).run prog V= .ok (.int .i64 x.k) V/\(Instr.loadAt 24 (.pointer (some ⟨gt,0+x.k*19,none⟩))).run prog V= .ok (.agg ac.toArray) V/\(Instr.loadAt 28 (.pointer (some ⟨g,10,none⟩))).run prog V= .ok (.agg (qC vn x.q).toArray) V) (by kernel_rfl) (by rw[<-hW2];exact HS.out) (fun M=>?_);rw[<-hW2]at M⊢;refine uh M 21 [0,1,2,3,4,5,6,7,8,9,10,11,12,13,14,15,16,17,18,19,20] J (by kernel_rfl) (fun _ _ _ _ _ h=>h) J J ?_;repeat(refine aj _ ?_;simp only[z])
 (refine ah _ J J (fun V hV=>(ul 173 (.tmp 20) ⟨g,13,none⟩ J J hV.1)) ?_;simp only[z])
 repeat(refine aj _ ?_;simp only[z])
 (refine ah _ J J (fun V hV=>(ul 3 (.tmp 24) ⟨g,15,none⟩ J J hV.2.1)) ?_;simp only[z])
 (refine ah _ J J (fun V hV=>(yA underlying173 aez ax (.tmp 21) (.tmp 25) J J J O V)) ?_;simp only[z])
 repeat(refine aj _ ?_;simp only[z])
 (refine ah _ J J (fun V hV=>(ul 24 (.tmp 27) ⟨gt,0+x.k*19,none⟩ J J hV.2.2.1)) ?_;simp only[z])
 repeat(refine aj _ ?_;simp only[z])
 (refine ah _ J J (fun V hV=>(ul 28 (.tmp 33) ⟨g,10,none⟩ J J hV.2.2.2)) ?_;simp only[z])
 (refine ah (.agg (xX vn yy).toArray) J J (fun V hV=>(z6 37 _ J #[(0,.agg ac.toArray),(1,.int .i64 (1024+pp)),(2,.int .i64 ii),(3,.agg (qC vn x.q).toArray)] (by kernel_rfl) (RB.out V))) ?_;simp only[z])
 repeat(refine aj _ ?_;simp only[z])
 simp only[vx];refine vz 21 none 37 (.tmp 37) (.tmp 35) (by kernel_rfl) J J J (by kernel_rfl) g 17 J (xX vn yy) J alc (by rw[AV U hq,hql];omega) (by rw[hql];exact GH) hqo ?_;intro w3 B3 g3 s3;rw[VJ U hq _ hql]at B3;have akS:w3.rangeAt gt (0+x.k*19) ac:=fun j v hv=>by rw[<-aoo j v hv];exact yH g3 ⟨gt,_,none⟩ (by simp;rw[hW2];exact hgt) (by simp;exact aw5)
 have F3:Fr (LS g gl) w w3:=F2d.trans (Fr.grown g3 alc (.inr (.inl J)) (.inl J)) (fun i _ h=>h);have l3:=l2d.fr (S:=fun i=>i=g) (Fr.grown g3 alc (.inr (.inl J)) J) (fun e=>gne e.symm);refine⟨HL.out w3 _ hql B3 akS,?_⟩;have d4:=B3.K 4 (by rw[Im U hql 4 I];exact X);have d43:=B3.K 43 (DZ U hql 3 I);have d40:=B3.K 40 (DZ U hql 0 I);have d42:=B3.K 42 (DZ U hql 2 I);have f40:=B3.frozen 40;have f42:=B3.frozen 42;have f43:=B3.frozen 43;have FIN:Hid (PM g gl vn x L hs eb dp w (.returned (.tuple #[])) (((w3.setCell ⟨g,40,none⟩ (.bool eb)).setCell ⟨g,42,none⟩ (.int .i64 x.hS)).setCell ⟨g,43,none⟩ (.int .i64 ((x.uz:Int)+1)))):=Y (by
  have C1:=B3.set 40 (.bool eb);rw[Z9 U hql]at C1;have C2:=C1.set 42 (.int .i64 x.hS);rw[Me U hql]at C2;have C3:=C2.set 43 (.int .i64 ((x.uz+1:Nat):Int));rw[Uz U hql]at C3;have e:(.int .i64 ((x.uz:Int)+1))=Value.int .i64 ((x.uz+1:Nat):Int):=lX;rw[e];have afr:=uq (uq (uL w3 g 40 (.bool eb)) 42 (.int .i64 x.hS)) 43 (.int .i64 ((x.uz+1:Nat):Int));have FG:=Fr.grown (S:=LS g gl) afr B3 (.inr (.inl J)) (.inl J);have FW:=F3.trans FG (fun i _ h=>h);obtain⟨y1,y2⟩:=HYP.out;have hyq:xZ x L=yy:=by rw[y1,HYY.out]
  refine⟨J,?_,?_,FW⟩
  ·rw[hyq];have:=PUT.out _ FW hs eb (xX vn yy) hql C3;rwa[hyq]at this
  ·
   rw[y2];exact l3.fr (S:=fun i=>i=g) (Fr.grown afr B3 (.inr (.inl J)) J) (fun e=>gne e.symm))
 clear PUT HYP l3 F3 akS g3 B3 aoo F2d l2d alc HS HL RB F2 l2 hb2 hrg;simp only[z];refine wpAnyH_done (by kernel_rfl) ?_ _;have awB:(x.uz:Int)<=1000000:=I;have awA:(0:Int)<=x.uz:=I;generalize(x.uz:Int)=sn at*;go_wp2_with fail;go_end0;exact FIN.out
theorem abJ(q:Qn)(l:List RR):∀(f k:Nat) (n:List (List UInt8)) (t:Option Int) (x:Int),wX q l f k n t= .error x->x=11\/x=15:=by
 intro f;induction f with
 |zero=>
  intro k n t x h;rw[GK]at h;split at h
  ·cases h
  ·
   split at h
   ·injection h with h;exact .inl h.symm
   ·injection h with h;exact .inr h.symm
 |succ f ih=>
  intro k n t x h;rw[GK]at h;split at h
  ·cases h
  ·
   split at h
   ·injection h with h;exact .inl h.symm
   ·exact ih _ _ _ _ h
def abK(o:Except Int Fnd):Int:=match o with
 | .ok _=>0
 | .error x=>x
def Su(q:Qn)(m:vo):Int:=abK (wX q m.an 16 0 q.name none)
theorem Ol(q:Qn)(m:vo):yO q m=if Su q m=0 then 1 else if Su q m=15 then 5 else if m.hd.rc=3 then 3 else 2:=by
 unfold yO Su abK;cases h:wX q m.an 16 0 q.name none with
 |ok f=>rfl
 |error x=>
  have:x≠0:=by rcases abJ _ _ _ _ _ _ _ h with rfl|rfl<;>decide
  simp only;rw[if_neg this]
def abL(x:Int)(w:World)(e:Ending)(w':World):Prop:=∃An nn cn A n c a b,e= .returned (.tuple #[.agg #[.slice An nn cn,.slice A n c,.int .i64 a,.int .i64 b],.int .i64 x])/\al w w'
theorem Ux.aeZ{o:Except Int Fnd}{e:Ending}{w':World}(h:Ux o w e w'):abL (abK o) w e w':=by
 cases o with
 |ok f=>obtain⟨An,cn,A,c,he,_,_,F⟩:=h;exact⟨An,_,cn,A,_,c,_,_,he,F⟩
 |error x=>exact h
theorem aaf(h:Hd)(A1 A2 A3 A4:Option Addr)(n1 n2 n3 n4 c1 c2 c3 c4:Nat)(v:Int)(W:World):(Instr.build 92 #[(0,.int .i64 v),(1,.agg (yh h (.slice A1 n1 c1) (.slice A2 n2 c2) (.slice A3 n3 c3) (.slice A4 n4 c4)).toArray)]).run prog W= .ok (.agg (Value.int .i64 v::yh h (.slice A1 n1 c1) (.slice A2 n2 c2) (.slice A3 n3 c3) (.slice A4 n4 c4)).toArray) W:=by kernel_rfl
theorem uA.ae0{ds:List Value}{m:vo}(h:uA w ds m)(v:Int)(W:World):(Instr.build 92 #[(0,.int .i64 v),(1,.agg ds.toArray)]).run prog W= .ok (.agg (Value.int .i64 v::ds).toArray) W:=by
 obtain⟨vq,va,vu,ve,rfl,X,h3,h4,h5,_⟩:=h;obtain⟨Aq,cq,rfl⟩:=X.form;obtain⟨Aa,ca,rfl⟩:=h3.form;obtain⟨Au,cu,rfl⟩:=h4.form;obtain⟨Ae,ce,rfl⟩:=h5.form;exact aaf ..
theorem z9:(prog.info? 92).map (·.size)=some 15:=by kernel_rfl
theorem Xt(q:Qn)(A:Option Addr)(c:Nat)(ds:List Value)(m:vo)(w:World)(hN:xj w A c q.name)(hn:q.name.length<=100000)(hM:uA w ds m):
  Calls prog 197 #[.agg #[.slice A q.name.length c,.int .i64 q.E,.int .i64 q.N],.agg ds.toArray] w (uf (.agg (Value.int .i64 (yO q m)::ds).toArray) w):=by
 have hdl:=hM.len;have afx:=hM.one;have OB:=Y (fun v W=>hM.ae0 v W);have FV:=Y (Ol q m);obtain⟨xe,hxe⟩:∃xe,Su q m=xe:=gp;obtain⟨vq,va,vu,ve,hds,X,h3,h4,h5,l1,l2,_⟩:=hM;obtain⟨Aa,ca,hva⟩:=h3.form;rw[hva]at h3;have FO:Hid (∀W,al w W->Calls prog 157 #[.agg #[.slice A q.name.length c,.int .i64 q.E,.int .i64 q.N],.slice Aa m.an.length ca] W (abL xe W)):=Y (fun W F=>by
  rw[<-hxe];exact(Uy q A Aa c ca m.an W (hN.G F) hn (uD.G h3 F) l2).mono (fun _ _ h=>h.aeZ))
 have e9:ds[9]?=some (.int .i64 m.hd.rc):=bJ;have e11:ds[11]?=some (.slice Aa m.an.length ca):=by rw[hds,hva];rfl
 rw[hxe]at FV;clear hds X h3 h4 h5 hva hxe hN l1 l2;obtain⟨al8,hZ⟩:∃al8:List Value,al8=Value.int .i64 0::uw:=gp;have hzl:al8.length=15:=by rw[hZ];rfl
 obtain⟨aeR,hX⟩:∃aeR,((w.alloc (.cells #[.slice A q.name.length c,.int .i64 q.E,.int .i64 q.N] 28)).alloc (.cells ds.toArray 50)).alloc (.cells al8.toArray 92)=aeR:=gp;have HX:al w aeR:=by rw[<-hX];exact(((Below.refl _ _).alloc (Nat.le_refl _) _).alloc ap _).alloc az _
 have X2:Z aeR (w.heap.size+1) 50 ds:=kU;have X3:Z aeR (w.heap.size+1+1) 92 al8:=lZ;have hX':=Y hX;have hZ':=Y hZ;have X:w.heap.size<=w.heap.size+1+1:=I;have g11:∀hi:11<ds.length,ds[11]'hi= .slice Aa m.an.length ca:=xp e11;clear hX hZ;go_enter func197,ntmps197;go_wp2_with fail;have FOX:=Y (FO.out aeR HX);rw[<-hX'.out,hZ'.out]at FOX;refine FOX.out.mono ?_;rw[show(Value.int .i64 0::uw).toArray=al8.toArray by rw[hZ'.out],hX'.out];rintro _ w1 ⟨An,nn,cn,Ar,nr,cr,fa,fb,rfl,b1⟩;have Y2:=X2.G b1 X2.lt;have Y3:=X3.G b1 X3.lt;have H1:=tL HX HX.size b1;clear FOX FO hX' hZ' b1 X2 X3 HX;have hOl:(Value.int .i64 2::ds:List Value).length=15:=kC;have hO1:∀k:Int,∀v∈(Value.int .i64 k::ds:List Value),v.oneCell'=true:=by
  intro k v hv;rcases List.mem_cons.1 hv with rfl|hv
  ·rfl
  ·exact afx v hv
 generalize w.heap.size+1+1=g3 at*;generalize w.heap.size+1=g2 at*;go_wp2_with(first
  |(refine tO (.load 50 (.tmp 3)) rfl ?_;go_must(refine tP rfl _ _ rfl g2 0 rfl (Y2.alloc _) 14 I _ underlying50 rfl ux ds (wg I) ?_))
  |(refine tO (.build 92 #[(0,.const (.int .i64 2)),(1,.tmp 15)]) rfl ?_;go_must(refine wl rfl 92 _ rfl #[(0,.int .i64 2),(1,.agg ds.toArray)] ea (OB.out 2 _) ?_))
  |(refine tO (.store 92 (.tmp 7) (.tmp 16)) rfl (ab rfl (w1.heap.size+1) 0 (Value.int .i64 2::ds) (Z.vP (w1.alloc _) 92 (Value.int .i64 0::uw) _ ap) (by rw[Nat.zero_add,hOl];decide) eU (hO1 2) ?_)))
 intro w3 B7 g7 sw;clear sw;have B7':=xG (L:=Value.int .i64 2::ds) B7 (by simp[uw,yh,Hd.vJ,hdl]);have K3:al w1 w3:=tN (((Below.refl _ _).alloc (Nat.le_refl _) _).alloc ap _) g7 az I;have aFu:=Y3.lt;replace Y2:=Y2.G K3 Y2.lt;replace Y3:=Y3.G K3 Y3.lt;have H3:=tL H1 H1.size K3;have h17:w.heap.size<=w1.heap.size+1:=by have:=H1.size;omega
 have h37:g3≠w1.heap.size+1:=I;have b9:=Y2.K 9 e9;clear K3 g7 B7 e9 e11 g11 Y2 H1 OB;generalize w1.heap.size+1=g7 at*;generalize m.hd.rc=rc at*;by_cases x0:xe=0
 case pos=>
  subst x0;have aeq:Hid (yO q m=1):=Y eV;go_wp2_with(refine tO (.store 3 (.tmp 20) (.const (.int .i64 1))) J (af J g7 0 (.int .i64 1) B7' I uB ?_));intro W V7 gW sW;clear sW;have V3:=Y3.grown gW eW;have VH:=tN H3 gW H3.size h17;clear gW FV B7' Y3 H3;have l15:(Value.int .i64 1::ds:List Value).length=15:=kC;go_wp2_with(first
   |(refine tO (.load 92 (.tmp 7)) rfl ?_;go_must(refine tP rfl _ _ rfl g7 0 rfl V7 15 I _ underlying92 rfl z9 (Value.int .i64 1::ds) (wg I) ?_))
   |(refine tO (.store 92 (.tmp 4) (.tmp 31)) rfl (ab rfl g3 0 (Value.int .i64 1::ds) V3 I eX (hO1 1) ?_)))
  intro w8 B8 g8 sw;clear sw;have B8':=xG (L:=Value.int .i64 1::ds) B8 I;exact pj
 have x0':(xe==0)=false:=by simpa using x0
 rw[if_neg x0]at FV;by_cases x15:xe=15
 case pos=>
  subst x15;have aeq:Hid (yO q m=5):=Y eV;clear x0;go_wp2_with(refine tO (.store 3 (.tmp 24) (.const (.int .i64 5))) J (af J g7 0 (.int .i64 5) B7' I uB ?_));intro W V7 gW sW;clear sW;have V3:=Y3.grown gW eW;have VH:=tN H3 gW H3.size h17;clear gW FV B7' Y3 H3;have l15:(Value.int .i64 5::ds:List Value).length=15:=kC;go_wp2_with(first
   |(refine tO (.load 92 (.tmp 7)) rfl ?_;go_must(refine tP rfl _ _ rfl g7 0 rfl V7 15 I _ underlying92 rfl z9 (Value.int .i64 5::ds) (wg I) ?_))
   |(refine tO (.store 92 (.tmp 4) (.tmp 31)) rfl (ab rfl g3 0 (Value.int .i64 5::ds) V3 I eX (hO1 5) ?_)))
  intro w8 B8 g8 sw;clear sw;have B8':=xG (L:=Value.int .i64 5::ds) B8 I;exact pj
 have aDP:(xe==15)=false:=by simpa using x15
 rw[if_neg x15]at FV;clear x0 x15;by_cases r3:rc=3
 case pos=>
  subst r3;have aeq:Hid (yO q m=3):=Y eV;go_wp2_with(refine tO (.store 3 (.tmp 30) (.const (.int .i64 3))) J (af J g7 0 (.int .i64 3) B7' I uB ?_));intro W V7 gW sW;clear sW;have V3:=Y3.grown gW eW;have VH:=tN H3 gW H3.size h17;clear gW FV B7' Y3 H3;have l15:(Value.int .i64 3::ds:List Value).length=15:=kC;go_wp2_with(first
   |(refine tO (.load 92 (.tmp 7)) rfl ?_;go_must(refine tP rfl _ _ rfl g7 0 rfl V7 15 I _ underlying92 rfl z9 (Value.int .i64 3::ds) (wg I) ?_))
   |(refine tO (.store 92 (.tmp 4) (.tmp 31)) rfl (ab rfl g3 0 (Value.int .i64 3::ds) V3 I eX (hO1 3) ?_)))
  intro w8 B8 g8 sw;clear sw;have B8':=xG (L:=Value.int .i64 3::ds) B8 I;exact pj
 have r3':(rc==3)=false:=by simpa using r3
 have aeq:Hid (yO q m=2):=Y (by rw[FV.out,if_neg r3]);clear r3 FV;have V7:=B7';have V3:=Y3;have VH:=H3;clear B7' Y3 H3;have l15:(Value.int .i64 2::ds:List Value).length=15:=kC;go_wp2_with(first
  |(refine tO (.load 92 (.tmp 7)) rfl ?_;go_must(refine tP rfl _ _ rfl g7 0 rfl V7 15 I _ underlying92 rfl z9 (Value.int .i64 2::ds) (wg I) ?_))
  |(refine tO (.store 92 (.tmp 4) (.tmp 31)) rfl (ab rfl g3 0 (Value.int .i64 2::ds) V3 I eX (hO1 2) ?_)))
 intro w8 B8 g8 sw;clear sw;have B8':=xG (L:=Value.int .i64 2::ds) B8 I;exact pj
theorem Xu:(prog.info? 4).map (·.size)=some 1:=by kernel_rfl
theorem PN:(prog.info? 175).map (·.size)=some 1:=by kernel_rfl
theorem PO:(prog.info? 33).map (·.size)=some 1:=by kernel_rfl
theorem aag(W:World):(Instr.build 37 #[]).run prog W= .ok (.agg Qe.toArray) W:=by kernel_rfl
theorem abM:∀v∈Qe,v.oneCell'=true:=by simp[Qe,Value.oneCell']
section
variable {T qs ds:List Value} {vn vt hs:Value} {q:Qn} {gl k:Nat} {eb hard done:Bool} {dp:Option Nat} {left vd:Int} {uz:Nat}
theorem UG(hT:T.length=10)(hq:qs.length=23)(vd':Int)(ds':List Value)(hd:ds.length=14)(hd':ds'.length=14):(zC T vn q vt gl k hs qs eb dp left uz hard done vd ds).take 46++(.int .i64 vd'::ds'++(zC T vn q vt gl k hs qs eb dp left uz hard done vd ds).drop 61)=zC T vn q vt gl k hs qs eb dp left uz hard done vd' ds':=by
 have:=Xp (vn:=vn) (vt:=vt) (hs:=hs) (q:=q) (gl:=gl) (k:=k) (eb:=eb) (hard:=hard) (done:=done) (dp:=dp) (left:=left) (vd:=vd) (uz:=uz) hT hq vd' ds' hd hd';rw[show 46+(.int .i64 vd'::ds':List Value).length=61 by simp[hd'],List.append_assoc]at this;exact this
theorem aah(hT:T.length=10)(hq:qs.length=23)(qs':List Value)(hq':qs'.length=23):(zC T vn q vt gl k hs qs eb dp left uz hard done vd ds).take 17++(qs'++(zC T vn q vt gl k hs qs eb dp left uz hard done vd ds).drop 40)=zC T vn q vt gl k hs qs' eb dp left uz hard done vd ds:=by
 have:=VJ (vn:=vn) (vt:=vt) (hs:=hs) (q:=q) (gl:=gl) (k:=k) (eb:=eb) (hard:=hard) (done:=done) (dp:=dp) (left:=left) (vd:=vd) (uz:=uz) (ds:=ds) hT hq qs' hq';rw[hq',List.append_assoc]at this;exact this
end
def GP(g gl:Nat)(vn:Value)(x:Xc)(eb:Bool)(vd:Int)(m:vo)(w:World)(e:Ending)(w':World):Prop:=e= .returned (.tuple #[])/\wM w' g gl vn {x with done:=true,vd:=vd,xP:=m} .nilFunc eb Qe none/\Fr (fun i=>i=g) w w'
theorem D7(g gl:Nat)(vn:Value)(x:Xc)(hs:Value)(eb:Bool)(qs:List Value)(dp:Option Nat)(vd:Int)(ds':List Value)(m:vo)(w:World)(h:wM w g gl vn x hs eb qs dp)(hM:uA w ds' m):
  Calls prog 89 #[.pointer (some ⟨g,0,none⟩),.agg (Value.int .i64 vd::ds').toArray] w (GP g gl vn x eb vd m w):=by
 have hq:=h.ql;obtain⟨T,vt,ds,F,U,X,h3,h4,h5,h6⟩:=h.b;have hdl:=h6.len;have amy:=hM.len;have hO1:∀v∈(Value.int .i64 vd::ds':List Value),v.oneCell'=true:=by exact sP
 have hOl:(Value.int .i64 vd::ds':List Value).length=15:=by simp[amy]
 have HX:Below w.heap.size w (w.alloc (.cells (Value.int .i64 vd::ds').toArray 92)):=gj;have BX:=Z.new w 92 (Value.int .i64 vd::ds');have hbX:=F.G HX F.lt;have FIN:Hid (∀w',Fr (fun i=>i=g) w w'->Z w' g 177 (zC T vn x.q vt gl x.k .nilFunc Qe eb none x.left x.uz x.hard true vd ds')->GP g gl vn x eb vd m w (.returned (.tuple #[])) w'):=Y (fun w' hg hb'=>⟨J,⟨⟨T,vt,ds',hb',U,X,h3,h4,hg.I5 h5 cQ,hg.xP hM⟩,h.nm.ue hg.ue,Cw⟩,hg⟩);have hgw:g≠w.heap.size:=by have:=F.lt;omega
 clear h X h3 h4 h5 h6 hM;obtain⟨aek,hO⟩:∃aek,Value.int .i64 vd::ds'=aek:=gp;rw[hO]at hO1 hOl HX BX hbX⊢;have HO:=Y hO;have F0:Fr (fun i=>i=g) w (w.alloc (.cells aek.toArray 92)):=Fr.G HX;have HF0:=Y F0;clear hO F HX F0;go_enter func89,ntmps89;go_wp2_with(refine tO (.store 4 (.tmp 6) (.const (.bool true))) J (af J g 45 (.bool true) hbX eY Xu ?_));intro w1 B1 g1 sw;clear sw;rw[UB U hq]at B1;have F1:=HF0.out.trans (Fr.grown (S:=fun i=>i=g) g1 hbX (.inr (.inl J)) J) (fun i _ h=>h);have X1:=BX.grown g1 az;clear HF0 g1 hbX BX;go_wp2_with(first
  |(refine tO (.load 92 (.tmp 3)) rfl ?_;go_must(refine tP rfl _ _ rfl w.heap.size 0 rfl X1 15 I _ underlying92 rfl z9 aek (wg I) ?_))
  |(refine tO (.store 92 (.tmp 10) (.tmp 8)) rfl (ab rfl g 46 aek B1 (by rw[AV U hq,hOl];omega) eU hO1 ?_)))
 intro w2 B2 g2 sw;clear sw;rw[<-HO.out,UG U hq _ _ hdl amy]at B2;have F2:=F1.trans (Fr.grown (S:=fun i=>i=g) g2 B1 (.inr (.inl J)) J) (fun i _ h=>h);clear F1 g2 B1 X1;go_wp2_with(refine tO (.store 175 (.tmp 13) (.const .nilFunc)) J (af J g 16 .nilFunc B2 eY PN ?_));intro w3 B3 g3 sw;clear sw;rw[L7 U hq]at B3;have F3:=F2.trans (Fr.grown (S:=fun i=>i=g) g3 B2 (.inr (.inl J)) J) (fun i _ h=>h);clear F2 g3 B2;go_wp2_with(first
  |(refine tO (.build 37 #[]) rfl ?_;go_must(refine wl rfl 37 _ rfl #[] ea (aag _) ?_))
  |(refine tO (.store 37 (.tmp 17) (.tmp 15)) rfl (ab rfl g 17 Qe B3 (by rw[AV U hq,Cw];omega) GH abM ?_)))
 intro w4 B4 g4 sw;clear sw;rw[Cw,aah U hq _ Cw]at B4;have F4:=F3.trans (Fr.grown (S:=fun i=>i=g) g4 B3 (.inr (.inl J)) J) (fun i _ h=>h);clear F3 g4 B3;go_wp2_with(refine tO (.store 33 (.tmp 20) (.const (.pointer none))) J (af J g 41 (Gg none) B4 (by rw[AV U Cw];omega) PO ?_));intro w5 B5 g5 sw;clear sw;rw[Md U Cw]at B5;have F5:=F4.trans (Fr.grown (S:=fun i=>i=g) g5 B4 (.inr (.inl J)) J) (fun i _ h=>h);clear F4 g5 B4;go_wp2_with fail;go_end0;exact FIN.out _ F5 B5
end Go.Proofs.YthnbcmlnpdabhaaGreat
