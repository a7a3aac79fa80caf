/-
  Layer 29 (xchg):leg,over,finish;Done,Sent.
-/
import Derived.Test.YtakkipnmpmobbaaGreatIFq
namespace Go.Proofs.YtakkipnmpmobbaaGreat
open _root_.Go.Proofs.Tryz
set_option maxHeartbeats 8000000
open Go.RowKit
set_option maxRecDepth 100000
set_option linter.unusedVariables false
set_option linter.unusedSimpArgs false
variable {w:World} {g gl:Nat} {vn hs:Value} {eb:Bool} {qs:List Value}
theorem ue.cells{x:Xc}{dp:Option Nat}(h:ue w g gl vn x hs eb qs dp):∃L vt ds,N w g 173 L/\L.length=61/\L[4]?=some (.int .i64 x.tmo)/\L[7]?=some (.bool x.vc)/\L[9]?=some (.bool x.ed)/\(L.drop 10).take 3=qC vn x.q/\L[13]?=some vt/\L[14]?=some (.pointer (some ⟨gl,0,none⟩))/\L[15]?=some (.int .i64 x.k)/\L[16]?=some hs/\(L.drop 17).take 23=qs/\L[40]?=some (.bool eb)/\L[41]?=some (Dw dp)/\L[42]?=some (.int .i64 x.left)/\L[43]?=some (.int .i64 x.r6)/\L[44]?=some (.bool x.hard)/\L[45]?=some (.bool x.done)/\(L.drop 46).take 15= .int .i64 x.vd::ds/\JF w 0 vt x.tr/\sA w ds x.xZ:=by
 obtain⟨T,vt,ds,Z,U,F,h3,h4,h5,h6⟩:=h.b;have hq:=h.ql;refine⟨_,vt,ds,Z,by rw[yO U hq,h6.len],by rw[Fe U hq 4 Y];exact F,by rw[Fe U hq 7 Y];exact h3,by rw[Fe U hq 9 Y];exact h4,aeR U hq,CO U hq 0 Y,CO U hq 1 Y,CO U hq 2 Y,CO U hq 3 Y,af1 U hq,Bt U hq 0 Y,Bt U hq 1 Y,Bt U hq 2 Y,Bt U hq 3 Y,Bt U hq 4 Y,Bt U hq 5 Y,?_,h5,h6⟩;rw[aeS U hq,List.take_of_length_le (by rw[h6.len];decide)]
theorem aaV{x:Xc}{dp:Option Nat}(h:ue w g gl vn x hs eb qs dp):Calls prog 77 #[.pointer (some ⟨g,0,none⟩)] w (uQ (.bool x.done) w):=by
 obtain⟨L,vt,ds,Z,_,_,_,_,_,_,_,_,_,_,_,_,_,_,_,c45,_⟩:=h.cells;have d45:=Z.rD 45 c45;clear Z c45 h;generalize x.done=dn at*;go_enter func77,ntmps77;exact mV
theorem aaW{x:Xc}{dp:Option Nat}(h:ue w g gl vn x hs eb qs dp):Calls prog 71 #[.pointer (some ⟨g,0,none⟩)] w (uQ (.int .i64 x.r6) w):=by
 obtain⟨L,vt,ds,Z,_,_,_,_,_,_,_,_,_,_,_,_,_,c43,_⟩:=h.cells;have d43:=Z.rD 43 c43;clear Z c43 h;generalize(x.r6:Int)=dn at*;go_enter func71,ntmps71;exact mV
theorem uU{g':Nat}{t t':TypeId}{L L':List Value}(h:N w g t L)(h':N w g' t' L')(ht:t≠t'):g≠g':=by
 intro e;subst e;unfold N at h h';rw[h]at h';injection h' with h';injection h' with _ h';exact ht h'
theorem rJ.Oo{α:Type}{Hh:Nat}{e:TypeId}{k c:Nat}{R:List Value->α->Prop}{l:List α}(h:rJ w Hh e k R (.slice (some ⟨g,0,none⟩) l.length c) l)(hp:0<l.length):∃L,N w g e L:=by
 obtain⟨css,ho,_⟩:=h;rcases ho.2 with⟨_,h0⟩|⟨g',cap,cur,hv,_,hg,_⟩
 ·omega
 ·injection hv with hv _ _;injection hv with hv;injection hv with hv;subst hv;exact⟨cur.toList,hg⟩
theorem af2:(prog.info? 145).map (·.size)=some 19:=by kernel_rfl
theorem Uy{b o:Nat}{a c:List Value}(h:w.rangeAt b o (a++c)):w.rangeAt b o a:=fun j v hv=>h j v (by rw[List.getElem?_append_left (List.getElem?_eq_some_iff.1 hv).1];exact hv)
theorem vj{L:Lt}(h:sE w g L):∃cs,N w g 99 cs:=by obtain⟨v,h,_⟩:=h;exact⟨_,h⟩
def LS(g gl:Nat)(i:Nat):Prop:=i=g\/i=gl
def Ot(g gl:Nat)(vn:Value)(x:Xc)(L:Lt)(hs:Value)(eb:Bool)(dp:Option Nat)(w:World)(e:Ending)(w':World):Prop:=e= .returned (.tuple #[])/\ue w' g gl vn {x with y:=vV x L,left:=x.tmo,r6:=x.r6+1} hs eb (yf vn (vV x L)) dp/\sE w' gl (KR L)/\Fr (LS g gl) w w'
theorem VJ(g gl:Nat)(vn:Value)(x:Xc)(L:Lt)(hs:Value)(eb0 eb:Bool)(qs:List Value)(dp:Option Nat)(w:World)(h:ue w g gl vn x hs eb0 qs dp)(E:sE w gl L)(O:x.k<x.tr.length)(hu:L.us<=999999990)(hd:L.ds.length<=17592186044416)(hsn:x.r6<=1000000)(htr:x.tr.length<=1000):
  Calls prog 127 #[.pointer (some ⟨g,0,none⟩),.bool eb] w (Ot g gl vn x L hs eb dp w):=by
 have hq:=h.ql;obtain⟨vnA,vnc,hvn,hNR⟩:=h.nm.form;obtain⟨T,vt,ds,Z,U,F,h3,h4,h5,h6⟩:=h.b;obtain⟨lc,hlb⟩:=vj E;have gne:=uU Z hlb K;have hY:Hid (x.tr.getD x.k sg.zero=x.tr[x.k]):=J (by rw[List.getD_eq_getElem?_getD,List.getElem?_eq_getElem O];rfl);obtain⟨p1,p2⟩:=EO L (show(0:Int)<64512 by decide);obtain⟨q1,q2⟩:=EO (wW L 64512).2 (show(0:Int)<65536 by decide);have D1:=J (Qv gl L 64512 w E K K Y hd);have D2:=J (fun W h=>Qv gl (wW L 64512).2 65536 W h K K (by show L.us+1<=1000000000;omega) hd);obtain⟨R1,hR1⟩:=aq (wW L 64512);rw[hR1.out]at D1 D2 p1 p2 q1 q2;obtain⟨R2,hR2⟩:=aq (wW R1.2 65536);rw[hR2.out]at D2 q1 q2;have HYP:Hid (vV x L=⟨x.tr[x.k],1024+R1.1,R2.1,x.q⟩/\KR L=R2.2):=J ⟨by unfold vV;rw[hY.out,hR1.out,hR2.out],by unfold KR;rw[hR1.out,hR2.out]⟩;have d14:=Z.rD 14 (CO U hq 1 Y);have PUT:=J (fun w' (hg:Fr (LS g gl) w w') (hs':Value) (eb':Bool) (qs':List Value) (hq':qs'.length=23) (hb':N w' g 173 (xI T vn x.q vt gl x.k hs qs' eb' dp x.tmo (x.r6+1) x.hard x.done x.vd ds))=>(⟨⟨T,vt,ds,hb',U,F,h3,h4,hg.Rl h5 bV,hg.xZ h6⟩,h.nm.rM hg.rM,hq'⟩:ue w' g gl vn {x with y:=vV x L,left:=x.tmo,r6:=x.r6+1} hs eb' qs' dp));have HB:=J Z;have H5:=J h5;have HLB:=J hlb;clear E h6 h hR1 hR2 hY hu hd hNR Z h5 hlb;go_enter func127,ntmps127;go_wp2_with fail;refine D1.out.mono ?_;rintro _ B ⟨rfl,l1,g1⟩;have hb1:=HB.out.grown g1 (by simp;exact gne);have F1:Fr (LS g gl) w B:=Fr.grown g1 HLB.out (.inr (.inr (.inl I))) (.inr I);have e14:=hb1.rD 14 (CO U hq 1 Y);have D2':=J (D2.out B l1);obtain⟨lc1,ava⟩:=vj l1;clear d14 D1 D2 g1 l1;generalize R1.1=pp at*;go_wp2_with fail;refine D2'.out.mono ?_;rintro _ w2 ⟨rfl,l2,g2⟩;have hb2:=hb1.grown g2 (by simp;exact gne);have F2:Fr (LS g gl) w w2:=F1.trans (Fr.grown g2 ava (.inr (.inr (.inl I))) (.inr I)) (fun i _ h=>h);have h5:=F2.Rl H5.out bV;clear e14 D2' g2 ava F1 H5 HLB hb1 HB;obtain⟨At,ct,hvt⟩:=h5.form;subst hvt;obtain⟨gt,hAt,hgt,ag8⟩:=rJ.rU (fun _ _ h=>h.len) h5 Y;obtain⟨tc,hrg,rr,htc,rB⟩:=ag8 x.k O;subst hAt;rw[htc]at hrg;have hrg:=Uy hrg;obtain⟨gc,hgb⟩:=rJ.Oo h5 Y;have aBr:=uU hgb hb2 K;clear htc ag8 h5 hgb;generalize R2.1=ii at*;obtain⟨yy,hyy⟩:∃yy:Qy,yy=⟨x.tr[x.k],1024+pp,ii,x.q⟩:=gh;have hyi:yy.sv.ip.length=16:=by rw[hyy];exact rB
 have hql:(yf vn yy).length=23:=xV hyi;have hqo:∀v∈yf vn yy,v.oneCell'=true:=acL (by rw[hvn];rfl);have RB:Hid (∀W,(Instr.build 163 #[(0,.agg x.tr[x.k].cells.toArray),(1,.int .i64 (1024+pp)),(2,.int .i64 ii),(3,.agg (qC vn x.q).toArray)]).run prog W= .ok (.agg (yf vn yy).toArray) W):=J (fun W=>by rw[hyy,hvn];exact acN ⟨x.tr[x.k],1024+pp,ii,x.q⟩ rB vnA _ vnc W);have HYY:=J hyy;have HIP:=J rB;have e1:Hid (x.tr[x.k].cells.length=18):=J (sg.rY _ rB);clear hyy rB hyi hvn;have LDS:∀(V:World) (qs':List Value),qs'.length=23->N V g 173 (xI T vn x.q (.slice (some ⟨gt,0,none⟩) x.tr.length ct) gl x.k hs qs' eb0 dp x.left x.r6 x.hard x.done x.vd ds)->V.rangeAt gt (0+x.k*19) x.tr[x.k].cells->
   (Instr.loadAt 107 (.pointer (some ⟨g,13,none⟩))).run prog V= .ok (.slice (some ⟨gt,0,none⟩) x.tr.length ct) V/\(Instr.loadAt 3 (.pointer (some ⟨g,15,none⟩))).run prog V= .ok (.int .i64 x.k) V/\(Instr.loadAt 67 (.pointer (some ⟨gt,0+x.k*19,none⟩))).run prog V= .ok (.agg x.tr[x.k].cells.toArray) V/\(Instr.loadAt 160 (.pointer (some ⟨g,10,none⟩))).run prog V= .ok (.agg (qC vn x.q).toArray) V:=fun V qs' hq' hbV hrV=>
  ⟨rQ underlying107 I (hbV.rD 13 (CO U hq' 0 Y)),rQ underlying3 I (hbV.rD 15 (CO U hq' 2 Y)),uN hrV underlying67 I (by rw[e1.out];exact uq),hbV.tW 160 10 3 (by rw[yO U hq'];omega) _ underlying160 I xS _ (aeR U hq')⟩
 have HL:=J LDS;clear LDS;generalize hac:x.tr[x.k].cells=ac at*;have HAC:=J hac;clear hac;obtain⟨W2,hW2⟩:∃W2,W2=w2.drew:=gh;have anM:N W2 g 173 (xI T vn x.q (.slice (some ⟨gt,0,none⟩) x.tr.length ct) gl x.k hs qs eb0 dp x.left x.r6 x.hard x.done x.vd ds):=hW2▸hb2.drew;have l2d:sE W2 gl R2.2:=hW2▸l2.G (Below.refl _ _).drew;have F2d:Fr (LS g gl) w W2:=hW2▸F2.trans (Fr.G (S:=LS g gl) (Below.refl _ _).drew) (fun i _ h=>h);have ari:W2.rangeAt gt (0+x.k*19) ac:=hW2▸hrg;have HS:=J (HL.out _ qs hq anM ari);go_wp2_with fail;refine wp_region_held_drew (S:=fun V=>(Instr.loadAt 107 (.pointer (some ⟨g,13,none⟩))).run prog V= .ok (.slice (some ⟨gt,0,none⟩) x.tr.length ct) V/\(Instr.loadAt 3 (.pointer (some ⟨g,15,none⟩))).run prog V= .ok (.int .i64 x.k) V/\(Instr.loadAt 67 (.pointer (some ⟨gt,0+x.k*19,none⟩))).run prog V= .ok (.agg ac.toArray) V/\(Instr.loadAt 160 (.pointer (some ⟨g,10,none⟩))).run prog V= .ok (.agg (qC vn x.q).toArray) V) (by kernel_rfl) (by rw[<-hW2];exact HS.out) (fun hS=>?_);rw[<-hW2]at hS⊢;refine rS hS 21 [0,1,2,3,4,5,6,7,8,9,10,11,12,13,14,15,16,17,18,19,20] I (by kernel_rfl) (fun _ _ _ _ _ h=>h) I I ?_;repeat(refine ak _ ?_;simp only[X])
 (refine aj _ I I (fun V hV=>(rX 107 (.tmp 20) ⟨g,13,none⟩ I I hV.1)) ?_;simp only[X])
 repeat(refine ak _ ?_;simp only[X])
 (refine aj _ I I (fun V hV=>(rX 3 (.tmp 24) ⟨g,15,none⟩ I I hV.2.1)) ?_;simp only[X])
 (refine aj _ I I (fun V hV=>(vi underlying107 af2 K (.tmp 21) (.tmp 25) I I I O V)) ?_;simp only[X])
 repeat(refine ak _ ?_;simp only[X])
 (refine aj _ I I (fun V hV=>(rX 67 (.tmp 27) ⟨gt,0+x.k*19,none⟩ I I hV.2.2.1)) ?_;simp only[X])
 repeat(refine ak _ ?_;simp only[X])
 (refine aj _ I I (fun V hV=>(rX 160 (.tmp 33) ⟨g,10,none⟩ I I hV.2.2.2)) ?_;simp only[X])
 (refine aj (.agg (yf vn yy).toArray) I I (fun V hV=>(wm 163 _ I #[(0,.agg ac.toArray),(1,.int .i64 (1024+pp)),(2,.int .i64 ii),(3,.agg (qC vn x.q).toArray)] (by kernel_rfl) (RB.out V))) ?_;simp only[X])
 repeat(refine ak _ ?_;simp only[X])
 simp only[sS];refine wL 21 none 163 (.tmp 37) (.tmp 35) (by kernel_rfl) I I I (by kernel_rfl) g 17 I (yf vn yy) I anM (by rw[yO U hq,hql];omega) (by rw[hql];exact D7) hqo ?_;intro w3 B3 g3 s3;rw[VI U hq _ hql]at B3;have auK:w3.rangeAt gt (0+x.k*19) ac:=fun j v hv=>by rw[<-ari j v hv];exact AZ g3 ⟨gt,_,none⟩ (by simp;rw[hW2];exact hgt) (by simp;exact aBr)
 have F3:Fr (LS g gl) w w3:=F2d.trans (Fr.grown g3 anM (.inr (.inl I)) (.inl I)) (fun i _ h=>h);have l3:=l2d.fr (S:=fun i=>i=g) (Fr.grown g3 anM (.inr (.inl I)) I) (fun e=>gne e.symm);refine⟨HL.out w3 _ hql B3 auK,?_⟩;have d4:=B3.rD 4 (by rw[Fe U hql 4 Y];exact F);have d43:=B3.rD 43 (Bt U hql 3 Y);have d40:=B3.rD 40 (Bt U hql 0 Y);have d42:=B3.rD 42 (Bt U hql 2 Y);have f40:=B3.frozen 40;have f42:=B3.frozen 42;have f43:=B3.frozen 43;have aLR:=B3.lt;have FIN:Hid (Ot g gl vn x L hs eb dp w (.returned (.tuple #[])) (((w3.setCell ⟨g,40,none⟩ (.bool eb)).setCell ⟨g,42,none⟩ (.int .i64 x.tmo)).setCell ⟨g,43,none⟩ (.int .i64 ((x.r6:Int)+1)))):=J (by
  have C1:=B3.set 40 (.bool eb);rw[aaS U hql]at C1;have C2:=C1.set 42 (.int .i64 x.tmo);rw[JN U hql]at C2;have C3:=C2.set 43 (.int .i64 ((x.r6+1:Nat):Int));rw[Ut U hql]at C3;have e:(.int .i64 ((x.r6:Int)+1))=Value.int .i64 ((x.r6+1:Nat):Int):=fY;rw[e];have ag6:=sd (sd (sU w3 g 40 (.bool eb)) 42 (.int .i64 x.tmo)) 43 (.int .i64 ((x.r6+1:Nat):Int));have FG:=Fr.grown (S:=LS g gl) ag6 B3 (.inr (.inl I)) (.inl I);have FW:=F3.trans FG (fun i _ h=>h);obtain⟨y1,y2⟩:=HYP.out;have hyq:vV x L=yy:=by rw[y1,HYY.out]
  refine⟨I,?_,?_,FW⟩
  ·rw[hyq];have:=PUT.out _ FW hs eb (yf vn yy) hql C3;rwa[hyq]at this
  ·
   rw[y2];exact l3.fr (S:=fun i=>i=g) (Fr.grown ag6 B3 (.inr (.inl I)) I) (fun e=>gne e.symm))
 clear PUT HYP l3 F3 auK g3 B3 ari F2d l2d anM HS HL RB F2 l2 hb2 hrg;simp only[X];refine wpAnyH_done (by kernel_rfl) ?_ _;have aKW:(x.r6:Int)<=1000000:=Y;have aKV:(0:Int)<=x.r6:=Y;generalize(x.r6:Int)=sn at*;go_wp2_with fail;go_end0;exact FIN.out
theorem ac5(q:Qn)(l:List RR):∀(f k:Nat) (n:List (List UInt8)) (t:Option Int) (x:Int),uO q l f k n t= .error x->x=11\/x=15:=by
 intro f;induction f with
 |zero=>
  intro k n t x h;rw[Bo]at h;split at h
  ·cases h
  ·
   split at h
   ·injection h with h;exact .inl h.symm
   ·injection h with h;exact .inr h.symm
 |succ f ih=>
  intro k n t x h;rw[Bo]at h;split at h
  ·cases h
  ·
   split at h
   ·injection h with h;exact .inl h.symm
   ·exact ih _ _ _ _ h
def aeV(o:Except Int Fnd):Int:=match o with
 | .ok _=>0
 | .error x=>x
def ac6(q:Qn)(m:tq):Int:=aeV (uO q m.an 16 0 q.name none)
theorem XM(q:Qn)(m:tq):vU q m=if ac6 q m=0 then 1 else if ac6 q m=15 then 5 else if m.hd.rc=3 then 3 else 2:=by
 unfold vU ac6 aeV;cases h:uO q m.an 16 0 q.name none with
 |ok f=>rfl
 |error x=>
  have:x≠0:=by rcases ac5 _ _ _ _ _ _ _ h with rfl|rfl<;>decide
  simp only;rw[if_neg this]
def af3(x:Int)(w:World)(e:Ending)(w':World):Prop:=∃An nn cn A n c a b,e= .returned (.tuple #[.agg #[.slice An nn cn,.slice A n c,.int .i64 a,.int .i64 b],.int .i64 x])/\ao w w'
theorem Om.agP{o:Except Int Fnd}{e:Ending}{w':World}(h:Om o w e w'):af3 (aeV o) w e w':=by
 cases o with
 |ok f=>obtain⟨An,cn,A,c,he,_,_,Z⟩:=h;exact⟨An,_,cn,A,_,c,_,_,he,Z⟩
 |error x=>exact h
theorem aaX(h:Hd)(A1 A2 A3 A4:Option Addr)(n1 n2 n3 n4 c1 c2 c3 c4:Nat)(v:Int)(W:World):(Instr.build 171 #[(0,.int .i64 v),(1,.agg (xR h (.slice A1 n1 c1) (.slice A2 n2 c2) (.slice A3 n3 c3) (.slice A4 n4 c4)).toArray)]).run prog W= .ok (.agg (Value.int .i64 v::xR h (.slice A1 n1 c1) (.slice A2 n2 c2) (.slice A3 n3 c3) (.slice A4 n4 c4)).toArray) W:=by kernel_rfl
theorem sA.agQ{ds:List Value}{m:tq}(h:sA w ds m)(v:Int)(W:World):(Instr.build 171 #[(0,.int .i64 v),(1,.agg ds.toArray)]).run prog W= .ok (.agg (Value.int .i64 v::ds).toArray) W:=by
 obtain⟨vq,va,vu,ve,rfl,F,h3,h4,h5,_⟩:=h;obtain⟨Aq,cq,rfl⟩:=F.form;obtain⟨Aa,ca,rfl⟩:=h3.form;obtain⟨Au,cu,rfl⟩:=h4.form;obtain⟨Ae,ce,rfl⟩:=h5.form;exact aaX ..
theorem zv:(prog.info? 171).map (·.size)=some 15:=by kernel_rfl
theorem XO(q:Qn)(A:Option Addr)(c:Nat)(ds:List Value)(m:tq)(w:World)(hN:wA w A c q.name)(hn:q.name.length<=100000)(hM:sA w ds m):
  Calls prog 160 #[.agg #[.slice A q.name.length c,.int .i64 q.Q,.int .i64 q.cl],.agg ds.toArray] w (rW (.agg (Value.int .i64 (vU q m)::ds).toArray) w):=by
 have hdl:=hM.len;have w1:=hM.one;have OB:=J (fun v W=>hM.agQ v W);have FV:=J (XM q m);obtain⟨xe,hxe⟩:∃xe,ac6 q m=xe:=gh;obtain⟨vq,va,vu,ve,hds,F,h3,h4,h5,l1,l2,_⟩:=hM;obtain⟨Aa,ca,hva⟩:=h3.form;rw[hva]at h3;have FO:Hid (∀W,ao w W->Calls prog 112 #[.agg #[.slice A q.name.length c,.int .i64 q.Q,.int .i64 q.cl],.slice Aa m.an.length ca] W (af3 xe W)):=J (fun W Z=>by
  rw[<-hxe];exact(JI q A Aa c ca m.an W (hN.G Z) hn (sM.G h3 Z) l2).mono (fun _ _ h=>h.agP))
 have e9:ds[9]?=some (.int .i64 m.hd.rc):=by rw[hds];rfl
 have e11:ds[11]?=some (.slice Aa m.an.length ca):=by rw[hds,hva];rfl
 rw[hxe]at FV;clear hds F h3 h4 h5 hva hxe hN l1 l2;obtain⟨ahX,hZ⟩:∃ahX:List Value,ahX=Value.int .i64 0::sV:=gh;have hzl:ahX.length=15:=by rw[hZ];rfl
 obtain⟨hk,hX⟩:∃hk,((w.alloc (.cells #[.slice A q.name.length c,.int .i64 q.Q,.int .i64 q.cl] 160)).alloc (.cells ds.toArray 169)).alloc (.cells ahX.toArray 171)=hk:=gh;have HX:ao w hk:=by rw[<-hX];exact(((Below.refl _ _).alloc (Nat.le_refl _) _).alloc ar _).alloc aB _
 have X1:N hk w.heap.size 160 [.slice A q.name.length c,.int .i64 q.Q,.int .i64 q.cl]:=by rw[<-hX];exact((N.new w _ _).alloc _).alloc _
 have X2:N hk (w.heap.size+1) 169 ds:=jV;have X3:N hk (w.heap.size+1+1) 171 ahX:=kF;have hX':=J hX;have hZ':=J hZ;have F:w.heap.size<=w.heap.size+1+1:=Y;have g11:∀hi:11<ds.length,ds[11]'hi= .slice Aa m.an.length ca:=xN e11;clear hX hZ X1;go_enter func160,ntmps160;go_wp2_with fail;have FOX:=J (FO.out hk HX);rw[<-hX'.out,hZ'.out]at FOX;refine FOX.out.mono ?_;rw[show(Value.int .i64 0::sV).toArray=ahX.toArray by rw[hZ'.out],hX'.out];rintro _ B ⟨An,nn,cn,Ar,nr,cr,fa,fb,rfl,b1⟩;have Y2:=X2.G b1 X2.lt;have Y3:=X3.G b1 X3.lt;have H1:=rC HX HX.size b1;clear FOX FO hX' hZ' b1 X2 X3 HX;have hOl:(Value.int .i64 2::ds:List Value).length=15:=jI;have hO1:∀k:Int,∀v∈(Value.int .i64 k::ds:List Value),v.oneCell'=true:=by
  intro k v hv;rcases List.mem_cons.1 hv with rfl|hv
  ·rfl
  ·exact w1 v hv
 have W1:∀o1,Below B.heap.size B ((B.alloc o1).alloc (.cells ahX.toArray 171)):=fun o1=>((Below.refl _ _).alloc (Nat.le_refl _) _).alloc ar _
 generalize w.heap.size+1+1=g3 at*;generalize w.heap.size+1=g2 at*;go_wp2_with(first
  |(refine rF (.load 169 (.tmp 3)) rfl ?_;go_must(refine rG rfl _ _ rfl g2 0 rfl (Y2.alloc _) 14 Y _ underlying169 rfl tn ds (uH Y) ?_))
  |(refine rF (.build 171 #[(0,.const (.int .i64 2)),(1,.tmp 15)]) rfl ?_;go_must(refine sy rfl 171 _ rfl #[(0,.int .i64 2),(1,.agg ds.toArray)] cY (OB.out 2 _) ?_))
  |(refine rF (.store 171 (.tmp 7) (.tmp 16)) rfl (ab rfl (B.heap.size+1) 0 (Value.int .i64 2::ds) (N.uE (B.alloc _) 171 (Value.int .i64 0::sV) _ ar) (by rw[Nat.zero_add,hOl];decide) dC (hO1 2) ?_)))
 intro w3 B7 g7 sw;clear sw;have B7':=tH (L:=Value.int .i64 2::ds) B7 (by simp[sV,xR,Hd.uY,hdl]);have K3:ao B w3:=rE (((Below.refl _ _).alloc (Nat.le_refl _) _).alloc ar _) g7 aB Y;have aLW:=Y3.lt;replace Y2:=Y2.G K3 Y2.lt;replace Y3:=Y3.G K3 Y3.lt;have H3:=rC H1 H1.size K3;have h17:w.heap.size<=B.heap.size+1:=by have:=H1.size;omega
 have h37:g3≠B.heap.size+1:=Y;have b9:=Y2.rD 9 e9;have b0:=B7'.rD 0 I;have f0:=B7'.frozen 0;clear K3 g7 B7 e9 e11 g11 Y2 H1 W1 OB;generalize B.heap.size+1=g7 at*;generalize m.hd.rc=rc at*;by_cases x0:xe=0
 case pos=>
  subst x0;have h2:Hid (vU q m=1):=J dD;go_wp2_with(refine rF (.store 3 (.tmp 20) (.const (.int .i64 1))) I (af I g7 0 (.int .i64 1) B7' Y tG ?_));intro W V7 gW sW;clear sW;have V3:=Y3.grown gW dE;have VH:=rE H3 gW H3.size h17;clear gW FV B7' Y3 H3;have l15:(Value.int .i64 1::ds:List Value).length=15:=jI;go_wp2_with(first
   |(refine rF (.load 171 (.tmp 7)) rfl ?_;go_must(refine rG rfl _ _ rfl g7 0 rfl V7 15 Y _ underlying171 rfl zv (Value.int .i64 1::ds) (uH Y) ?_))
   |(refine rF (.store 171 (.tmp 4) (.tmp 31)) rfl (ab rfl g3 0 (Value.int .i64 1::ds) V3 Y dF (hO1 1) ?_)))
  intro w8 B8 g8 sw;clear sw;have B8':=tH (L:=Value.int .i64 1::ds) B8 Y;exact ng
 have x0':(xe==0)=false:=by simpa using x0
 rw[if_neg x0]at FV;by_cases x15:xe=15
 case pos=>
  subst x15;have h2:Hid (vU q m=5):=J dD;clear x0;go_wp2_with(refine rF (.store 3 (.tmp 24) (.const (.int .i64 5))) I (af I g7 0 (.int .i64 5) B7' Y tG ?_));intro W V7 gW sW;clear sW;have V3:=Y3.grown gW dE;have VH:=rE H3 gW H3.size h17;clear gW FV B7' Y3 H3;have l15:(Value.int .i64 5::ds:List Value).length=15:=jI;go_wp2_with(first
   |(refine rF (.load 171 (.tmp 7)) rfl ?_;go_must(refine rG rfl _ _ rfl g7 0 rfl V7 15 Y _ underlying171 rfl zv (Value.int .i64 5::ds) (uH Y) ?_))
   |(refine rF (.store 171 (.tmp 4) (.tmp 31)) rfl (ab rfl g3 0 (Value.int .i64 5::ds) V3 Y dF (hO1 5) ?_)))
  intro w8 B8 g8 sw;clear sw;have B8':=tH (L:=Value.int .i64 5::ds) B8 Y;exact ng
 have aKc:(xe==15)=false:=by simpa using x15
 rw[if_neg x15]at FV;clear x0 x15;by_cases r3:rc=3
 case pos=>
  subst r3;have h2:Hid (vU q m=3):=J dD;go_wp2_with(refine rF (.store 3 (.tmp 30) (.const (.int .i64 3))) I (af I g7 0 (.int .i64 3) B7' Y tG ?_));intro W V7 gW sW;clear sW;have V3:=Y3.grown gW dE;have VH:=rE H3 gW H3.size h17;clear gW FV B7' Y3 H3;have l15:(Value.int .i64 3::ds:List Value).length=15:=jI;go_wp2_with(first
   |(refine rF (.load 171 (.tmp 7)) rfl ?_;go_must(refine rG rfl _ _ rfl g7 0 rfl V7 15 Y _ underlying171 rfl zv (Value.int .i64 3::ds) (uH Y) ?_))
   |(refine rF (.store 171 (.tmp 4) (.tmp 31)) rfl (ab rfl g3 0 (Value.int .i64 3::ds) V3 Y dF (hO1 3) ?_)))
  intro w8 B8 g8 sw;clear sw;have B8':=tH (L:=Value.int .i64 3::ds) B8 Y;exact ng
 have r3':(rc==3)=false:=by simpa using r3
 have h2:Hid (vU q m=2):=J (by rw[FV.out,if_neg r3]);clear r3 FV;have V7:=B7';have V3:=Y3;have VH:=H3;clear B7' Y3 H3 f0;have l15:(Value.int .i64 2::ds:List Value).length=15:=jI;go_wp2_with(first
  |(refine rF (.load 171 (.tmp 7)) rfl ?_;go_must(refine rG rfl _ _ rfl g7 0 rfl V7 15 Y _ underlying171 rfl zv (Value.int .i64 2::ds) (uH Y) ?_))
  |(refine rF (.store 171 (.tmp 4) (.tmp 31)) rfl (ab rfl g3 0 (Value.int .i64 2::ds) V3 Y dF (hO1 2) ?_)))
 intro w8 B8 g8 sw;clear sw;have B8':=tH (L:=Value.int .i64 2::ds) B8 Y;exact ng
theorem XQ:(prog.info? 4).map (·.size)=some 1:=by kernel_rfl
theorem Ov:(prog.info? 161).map (·.size)=some 1:=by kernel_rfl
theorem Ox:(prog.info? 164).map (·.size)=some 1:=by kernel_rfl
theorem aaY(W:World):(Instr.build 163 #[]).run prog W= .ok (.agg qyZ.toArray) W:=by kernel_rfl
theorem ac7:∀v∈qyZ,v.oneCell'=true:=by simp[qyZ,Value.oneCell']
section
variable {T qs ds:List Value} {vn vt hs:Value} {q:Qn} {gl k:Nat} {eb hard done:Bool} {dp:Option Nat} {left vd:Int} {r6:Nat}
theorem Uz(hT:T.length=10)(hq:qs.length=23)(vd':Int)(ds':List Value)(hd:ds.length=14)(hd':ds'.length=14):(xI T vn q vt gl k hs qs eb dp left r6 hard done vd ds).take 46++(.int .i64 vd'::ds'++(xI T vn q vt gl k hs qs eb dp left r6 hard done vd ds).drop 61)=xI T vn q vt gl k hs qs eb dp left r6 hard done vd' ds':=by
 have:=XJ (vn:=vn) (vt:=vt) (hs:=hs) (q:=q) (gl:=gl) (k:=k) (eb:=eb) (hard:=hard) (done:=done) (dp:=dp) (left:=left) (vd:=vd) (r6:=r6) hT hq vd' ds' hd hd';rw[show 46+(.int .i64 vd'::ds':List Value).length=61 by simp[hd'],List.append_assoc]at this;exact this
theorem aaZ(hT:T.length=10)(hq:qs.length=23)(qs':List Value)(hq':qs'.length=23):(xI T vn q vt gl k hs qs eb dp left r6 hard done vd ds).take 17++(qs'++(xI T vn q vt gl k hs qs eb dp left r6 hard done vd ds).drop 40)=xI T vn q vt gl k hs qs' eb dp left r6 hard done vd ds:=by
 have:=VI (vn:=vn) (vt:=vt) (hs:=hs) (q:=q) (gl:=gl) (k:=k) (eb:=eb) (hard:=hard) (done:=done) (dp:=dp) (left:=left) (vd:=vd) (r6:=r6) (ds:=ds) hT hq qs' hq';rw[hq',List.append_assoc]at this;exact this
end
def Ee(g gl:Nat)(vn:Value)(x:Xc)(eb:Bool)(vd:Int)(m:tq)(w:World)(e:Ending)(w':World):Prop:=e= .returned (.tuple #[])/\ue w' g gl vn {x with done:=true,vd:=vd,xZ:=m} .nilFunc eb qyZ none/\Fr (fun i=>i=g) w w'
theorem Bu(g gl:Nat)(vn:Value)(x:Xc)(hs:Value)(eb:Bool)(qs:List Value)(dp:Option Nat)(vd:Int)(ds':List Value)(m:tq)(w:World)(h:ue w g gl vn x hs eb qs dp)(hM:sA w ds' m):
  Calls prog 108 #[.pointer (some ⟨g,0,none⟩),.agg (Value.int .i64 vd::ds').toArray] w (Ee g gl vn x eb vd m w):=by
 have hq:=h.ql;obtain⟨T,vt,ds,Z,U,F,h3,h4,h5,h6⟩:=h.b;have hdl:=h6.len;have apn:=hM.len;have hO1:∀v∈(Value.int .i64 vd::ds':List Value),v.oneCell'=true:=by exact qv
 have hOl:(Value.int .i64 vd::ds':List Value).length=15:=by simp[apn]
 have HX:Below w.heap.size w (w.alloc (.cells (Value.int .i64 vd::ds').toArray 171)):=fZ;have BX:=N.new w 171 (Value.int .i64 vd::ds');have hbX:=Z.G HX Z.lt;have FIN:Hid (∀w',Fr (fun i=>i=g) w w'->N w' g 173 (xI T vn x.q vt gl x.k .nilFunc qyZ eb none x.left x.r6 x.hard true vd ds')->Ee g gl vn x eb vd m w (.returned (.tuple #[])) w'):=J (fun w' hg hb'=>⟨I,⟨⟨T,vt,ds',hb',U,F,h3,h4,hg.Rl h5 bV,hg.xZ hM⟩,h.nm.rM hg.rM,zI⟩,hg⟩);have hgw:g≠w.heap.size:=by have:=Z.lt;omega
 clear h F h3 h4 h5 h6 hM;obtain⟨agB,hO⟩:∃agB,Value.int .i64 vd::ds'=agB:=gh;rw[hO]at hO1 hOl HX BX hbX⊢;have HO:=J hO;have F0:Fr (fun i=>i=g) w (w.alloc (.cells agB.toArray 171)):=Fr.G HX;have HF0:=J F0;clear hO Z HX F0;go_enter func108,ntmps108;go_wp2_with(refine rF (.store 4 (.tmp 6) (.const (.bool true))) I (af I g 45 (.bool true) hbX dG XQ ?_));intro B B1 g1 sw;clear sw;rw[Uv U hq]at B1;have F1:=HF0.out.trans (Fr.grown (S:=fun i=>i=g) g1 hbX (.inr (.inl I)) I) (fun i _ h=>h);have X1:=BX.grown g1 aB;clear HF0 g1 hbX BX;go_wp2_with(first
  |(refine rF (.load 171 (.tmp 3)) rfl ?_;go_must(refine rG rfl _ _ rfl w.heap.size 0 rfl X1 15 Y _ underlying171 rfl zv agB (uH Y) ?_))
  |(refine rF (.store 171 (.tmp 10) (.tmp 8)) rfl (ab rfl g 46 agB B1 (by rw[yO U hq,hOl];omega) dC hO1 ?_)))
 intro w2 B2 g2 sw;clear sw;rw[<-HO.out,Uz U hq _ _ hdl apn]at B2;have F2:=F1.trans (Fr.grown (S:=fun i=>i=g) g2 B1 (.inr (.inl I)) I) (fun i _ h=>h);clear F1 g2 B1 X1;go_wp2_with(refine rF (.store 161 (.tmp 13) (.const .nilFunc)) I (af I g 16 .nilFunc B2 dG Ov ?_));intro w3 B3 g3 sw;clear sw;rw[JK U hq]at B3;have F3:=F2.trans (Fr.grown (S:=fun i=>i=g) g3 B2 (.inr (.inl I)) I) (fun i _ h=>h);clear F2 g3 B2;go_wp2_with(first
  |(refine rF (.build 163 #[]) rfl ?_;go_must(refine sy rfl 163 _ rfl #[] cY (aaY _) ?_))
  |(refine rF (.store 163 (.tmp 17) (.tmp 15)) rfl (ab rfl g 17 qyZ B3 (by rw[yO U hq,zI];omega) D7 ac7 ?_)))
 intro w4 B4 g4 sw;clear sw;rw[zI,aaZ U hq _ zI]at B4;have F4:=F3.trans (Fr.grown (S:=fun i=>i=g) g4 B3 (.inr (.inl I)) I) (fun i _ h=>h);clear F3 g4 B3;go_wp2_with(refine rF (.store 164 (.tmp 20) (.const (.pointer none))) I (af I g 41 (Dw none) B4 (by rw[yO U zI];omega) Ox ?_));intro w5 B5 g5 sw;clear sw;rw[JM U zI]at B5;have F5:=F4.trans (Fr.grown (S:=fun i=>i=g) g5 B4 (.inr (.inl I)) I) (fun i _ h=>h);clear F4 g5 B4;go_wp2_with fail;go_end0;exact FIN.out _ F5 B5
end Go.Proofs.YtakkipnmpmobbaaGreat
