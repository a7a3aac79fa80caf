/-
  Layer 29,the reference:told.
-/
import Derived.Test.YthnbcmlnpdabhaaGreatKBq
namespace Go.Proofs.YthnbcmlnpdabhaaGreat
open _root_.Go.Proofs.Tryz
set_option maxHeartbeats 8000000
open Go.RowKit
set_option maxRecDepth 100000
set_option linter.unusedVariables false
set_option linter.unusedSimpArgs false
variable {lo c:Nat} {v1:Value} {S:Nat->Prop} {w:World} {A:Option Addr}
theorem Pm(w0:World)(g gl:Nat)(A:Option Addr)(c:Nat)(As:Option Addr)(cd:Nat)(x:Xc)(L:Lt)(qs:List Value)(dp:Option Nat)(ds:List Value)(m:vU)(w:World)(h:Cv w0 w g gl A c As cd x L qs dp)(hst:x.st)(hdn:x.done=false)(hmz:x.yr=vU.zero)(z:x.k<x.tr.length)(hu:L.us<=999999990)(hsn:x.uV<=1000000)(hnl:x.q.name.length<=100000)(hm:vf w ds m):
  Calls prog 94 #[.pointer (some ⟨g,0,none⟩),.agg ds.toArray] w (Df w0 g gl A c As cd (yX x L m) w):=by
 obtain⟨R,hR⟩:=ao (yX x L m);rw[hR.out];have hdl:=hm.len;have hhd:=hm.head;have HM:=Y hm;obtain⟨cb,hcb⟩:=ao (decide (x.lg=2));obtain⟨eb,heb⟩:=ao x.yB;have HT:Hid (R=if xH m.hd cb eb=1 then({x with done:=true,vd:=zi x.q m,yr:=m},L,[])
  else if xH m.hd cb eb=2 then ym x L 2
  else if xH m.hd cb eb=3 then ym x L 1
  else if xH m.hd cb eb=5 then wM {x with hard:=true} L
  else wM x L):=Y (by rw[<-hcb.out,<-heb.out,<-hR.out];rfl)
 have VO:=Y (fun V=>abc m.hd cb eb V);obtain⟨bz,hbz⟩:=ao ((((x.lg:Nat):Int)==0));have hez:Hid ((bz&&x.ed)=eb):=Y (by
  rw[<-heb.out,<-hbz.out];unfold Xc.yB;congr 1;rw[Bool.eq_iff_iff];simp)
 have as7:Hid ((((x.lg:Nat):Int)==2)=cb):=Y (by
  rw[<-hcb.out,Bool.eq_iff_iff];simp;omega)
 obtain⟨ul,vt,ds0,Z,hM,m4,m7,m9,m10,m13,m14,m15,m16,m17,m18,m19,m42,m43,m44,m45,m46,hTr,hm0⟩:=h.cells;have gne:=h.ne;have hgl:=Z.lt;have HB:=Y Z;have H:=Lib.hid h;have L16:=Y (fun V (hV:al w V)=>uB underlying3 J ((Z.G hV hgl).M 16 m16));have L9:=Y (fun V (hV:al w V)=>uB underlying4 J ((Z.G hV hgl).M 9 m9));have B2:=Y (fun V hV=>EL w0 g gl A c As cd x L qs dp 2 V (h.G hV) hst hdn hmz z hu hsn I);have B1:=Y (fun V hV=>EL w0 g gl A c As cd x L qs dp 1 V (h.G hV) hst hdn hmz z hu hsn I);have NX:=Y (fun V hV=>GJ w0 g gl A c As cd x L qs dp V (h.G hV) hst hdn hmz z hu hsn);have NH:Hid (∀V,al w V->Calls prog 93 #[.pointer (some ⟨g,0,none⟩)] (V.setCell ⟨g,43,none⟩ (.bool true)) (Df w0 g gl A c As cd (wM {x with hard:=true} L) V)):=Y (fun V hV=>by
  have agc:=vp V g 43 (.bool true);have hX:Cv w0 (V.setCell ⟨g,43,none⟩ (.bool true)) g gl A c As cd {x with hard:=true} L qs dp:=(h.G hV).aeD 1 I (.bool true) (fun ul hM=>hM.set 43 _) agc J J J J J J (fun vt=>rfl) J;have fr:Fr (fun i=>i=g) V (V.setCell ⟨g,43,none⟩ (.bool true)):=Fr.grown agc (Z.G hV Z.lt) (.inr (.inr (.inr (.inr (.inr (.inl J)))))) J;exact(GJ w0 g gl A c As cd {x with hard:=true} L qs dp _ hX ⟨hst.ips,hst.to1,hst.to2,hst.trl,hst.err⟩ hdn hmz z hu hsn).mono (fun e w' hx=>hx.back (fr.mono (fun _ h=>.inl h))))
 have D43:=Y (fun V (hV:al w V)=>(Z.G hV Z.lt).M 43 m43);have F43:=Y (fun V (hV:al w V)=>(Z.G hV Z.lt).frozen 43);have D44:=Y (fun V (hV:al w V)=>(Z.G hV Z.lt).M 44 m44);have F44:=Y (fun V (hV:al w V)=>(Z.G hV Z.lt).frozen 44);have HX:Below w.heap.size w (w.alloc (.cells ds.toArray 50)):=gF;have BX:=F.new w 50 ds;clear Z hTr hm0 m4 m7 m9 m10 m13 m14 m15 m16 m17 m18 m19 m42 m43 m44 m45 m46 hR h hst hm heb hcb;generalize xH m.hd cb eb=vv at*;obtain⟨fv,hfv⟩:=ao (zi x.q m);rw[hfv.out]at HT;generalize m.hd.ww=hv at*;obtain⟨W0,hW0⟩:=ao (w.alloc (.cells ds.toArray 50));rw[hW0.out]at HX BX;go_enter func94,ntmps94;go_wp2_with fail;rw[hW0.out];refine wp_region_held_drew (S:=fun V=>al W0 V) (by kernel_rfl) (Below.refl _ _).drew (fun K=>?_);cases bz
 case' false=>
  obtain rfl:false=eb:=hez.out;refine uL K 19 [0,1,2,3,4,5,6,7,8,9,10,11,12,13,14,15,16,17,18] J (by kernel_rfl) (fun _ _ _ _ _ h=>h) J J ?_
  (refine aj (.pointer (some ⟨w.heap.size,0,none⟩)) ?_;simp only[E])
  (refine ah _ J J (fun V hV=>(uP 46 (.tmp 5) ⟨w.heap.size,0,none⟩ J J ((BX.G hV BX.lt).wS 46 0 10 I _ underlying46 J aa5 _ hhd))) ?_;simp only[E])
  repeat(refine aj _ ?_;simp only[E])
  (refine ah _ J J (fun V hV=>(uP 3 (.tmp 9) ⟨g,16,none⟩ J J (L16.out V (um HX HX.size hV)))) ?_;simp only[E])
  (refine ah (.bool cb) J J (fun V hV=>fL) ?_;simp only[E])
  repeat(refine aj _ ?_;simp only[E])
  (refine ah _ J J (fun V hV=>(uP 3 (.tmp 14) ⟨g,16,none⟩ J J (L16.out V (um HX HX.size hV)))) ?_;simp only[E])
  (refine ah (.bool false) J J (fun V hV=>fM) ?_;simp only[E])
  (refine aj (.bool false) ?_;simp only[E])
  repeat(refine⟨_,undef,J,.inr ⟨J,J⟩,?_⟩;simp only[E])
  (refine aj (.bool false) ?_;simp only[E])
  simp only[vY]
 case' true=>
  obtain rfl:x.ed=eb:=hez.out;refine uL K 19 [0,1,2,3,4,5,6,7,8,9,10,11,12,13,14,15,16,17,18] J (by kernel_rfl) (fun _ _ _ _ _ h=>h) J J ?_
  (refine aj (.pointer (some ⟨w.heap.size,0,none⟩)) ?_;simp only[E])
  (refine ah _ J J (fun V hV=>(uP 46 (.tmp 5) ⟨w.heap.size,0,none⟩ J J ((BX.G hV BX.lt).wS 46 0 10 I _ underlying46 J aa5 _ hhd))) ?_;simp only[E])
  repeat(refine aj _ ?_;simp only[E])
  (refine ah _ J J (fun V hV=>(uP 3 (.tmp 9) ⟨g,16,none⟩ J J (L16.out V (um HX HX.size hV)))) ?_;simp only[E])
  (refine ah (.bool cb) J J (fun V hV=>fL) ?_;simp only[E])
  repeat(refine aj _ ?_;simp only[E])
  (refine ah _ J J (fun V hV=>(uP 3 (.tmp 14) ⟨g,16,none⟩ J J (L16.out V (um HX HX.size hV)))) ?_;simp only[E])
  (refine ah (.bool true) J J (fun V hV=>fM) ?_;simp only[E])
  repeat(refine aj _ ?_;simp only[E])
  (refine ah _ J J (fun V hV=>(uP 4 (.tmp 21) ⟨g,9,none⟩ J J (L9.out V (um HX HX.size hV)))) ?_;simp only[E])
  (refine aj (.bool x.ed) ?_;simp only[E])
  simp only[vY]
 all_goals
  refine vx 19 (some 24) 148 #[.agg hv.toArray,.bool cb,.bool _] (by kernel_rfl) J J (by kernel_rfl) bp (VO.out _) ?_;rintro _ w4 ⟨rfl,b4⟩;have K:=um K K.size b4;refine⟨_,J,K,?_⟩;simp only[E];refine wpAnyH_done (by kernel_rfl) ?_ _;have HW:=um HX HX.size K;have BW:=BX.G K BX.lt;have FW:Hid (Fr (LS g gl) w w4):=Y (Fr.G HW);clear HX BX K b4 VO hhd L16 L9 hez as7 hbz;by_cases v1:vv=1
  case pos=>
   have HR2:Hid (R=({x with done:=true,vd:=fv,yr:=m},L,[])):=Y fg;subst v1;clear B1 B2 NX NH D43 F43 HT;have f44:=F44.out _ HW;have d44:=D44.out _ HW;clear F44 D44;go_upto_region 4 with fail;obtain⟨w5,hw5⟩:∃w5,w5=w4.setCell ⟨g,44,none⟩ (.bool true):=gG;have G5:w4.grownBy w5 (some g):=by rw[hw5];exact vp w4 g 44 (.bool true)
   have H5:Cv w0 w5 g gl A c As cd {x with done:=true} L qs dp:=by rw[hw5];exact(H.out.G HW).aeD 2 I (.bool true) (fun ul hM=>hM.set 44 _) (vp w4 g 44 (.bool true)) J J J J J J (fun vt=>rfl) J
   have fr5:Fr (fun i=>i=g) w4 w5:=Fr.grown G5 (HB.out.G HW hgl) (.inr (.inr (.inr (.inr (.inr (.inl J)))))) J;have hm5:vf w5 ds m:=fr5.yr (HM.out.G HW);have hN5:xE w5 A c x.q.name:=H5.nm.G H5.bw;change Code.wp _ _ _ _ (w4.setCell ⟨g,44,none⟩ (.bool true));rw[<-hw5];clear hw5;have gm:w.heap.size≠g:=I;have BW5:F w5 w.heap.size 50 ds:=BW.grown G5 fN;have hq5:=H5.ql;obtain⟨R5,vt5,ds5,hb5,r1,r2,r3,r4,r5,r6⟩:=H5.b;have LQ:∀V es,es.length=4->F V g 90 (Ef R5 (qC (.slice A x.q.name.length c) x.q) (YP gl vt5 x) qs es ds5)->(Instr.loadAt 28 (.pointer (some ⟨g,10,none⟩))).run prog V= .ok (.agg #[.slice A x.q.name.length c,.int .i64 x.q.O,.int .i64 x.q.N]) V:=fun V es he hV=>hV.wS 28 10 3 (by rw[JE r1 J J hq5 he];omega) _ underlying28 J xu _ (acZ r1 J J hq5 he)
   have LM:∀V,F V w.heap.size 50 ds->(Instr.loadAt 50 (.pointer (some ⟨w.heap.size,0,none⟩))).run prog V= .ok (.agg ds.toArray) V:=kP;have FI:=Y (VB x.q A c ds m w5.drew (hN5.G (Below.refl _ _).drew) hnl (hm5.G (Below.refl _ _).drew));rw[hfv.out]at FI;have hS0:=And.intro (LQ w5.drew _ J hb5.drew) (LM _ BW5.drew);have HLQ:=Y LQ;have HLM:=Y LM;clear LQ LM;go_wp2_with fail;refine wp_region_held_drew (S:=fun V=>(Instr.loadAt 28 (.pointer (some ⟨g,10,none⟩))).run prog V= .ok (.agg #[.slice A x.q.name.length c,.int .i64 x.q.O,.int .i64 x.q.N]) V/\(Instr.loadAt 50 (.pointer (some ⟨w.heap.size,0,none⟩))).run prog V= .ok (.agg ds.toArray) V) (by kernel_rfl) hS0 (fun K=>?_);refine uL K 6 [0,1,2,3,4,5] J (by kernel_rfl) (fun _ _ _ _ _ h=>h) J J ?_;repeat(refine aj _ ?_;simp only[E])
   (refine ah _ J J (fun V hV=>(uP 28 (.tmp 33) ⟨g,10,none⟩ J J hV.1)) ?_;simp only[E])
   (refine ah _ J J (fun V hV=>(uP 50 (.tmp 3) ⟨w.heap.size,0,none⟩ J J hV.2)) ?_;simp only[E])
   simp only[vY];refine uO 6 (by kernel_rfl) ?_;refine wG 6 (some 36) 149 #[.agg #[.slice A x.q.name.length c,.int .i64 x.q.O,.int .i64 x.q.N],.agg ds.toArray] J J (by kernel_rfl) bp FI.out ?_;rintro _ w6 ⟨rfl,b6⟩;have B6:=hb5.drew.G b6 hb5.drew.lt;have BW6:F w6 w.heap.size 50 ds:=BW5.drew.G b6 BW5.drew.lt;have hS6:=And.intro (HLQ.out _ _ J B6) (HLM.out _ BW6);refine⟨_,J,hS6,?_⟩;have K:=hS6;simp only[E];refine uL K 2 [7,8] J (by kernel_rfl) (fun _ _ _ _ _ h=>h) J J ?_
   (refine aj (.pointer (some ⟨g,0,none⟩)) ?_;simp only[E])
   (refine aj (.pointer (some ⟨g,45,none⟩)) ?_;simp only[E])
   simp only[vY];refine uO 9 (by kernel_rfl) ?_;refine xS 9 3 (.tmp 38) (.tmp 36) J J J (by kernel_rfl) g 45 J (.int .i64 fv) J B6 fO uZ J J ?_;intro w7 B7 g7 s7;rw[GI r1 J J hq5 J 3 I]at B7;have BW7:F w7 w.heap.size 50 ds:=BW6.grown g7 fN;refine⟨⟨HLQ.out _ _ J B7,HLM.out _ BW7⟩,?_⟩;simp only[E];refine wpAnyH_done (by kernel_rfl) ?_ _;clear K hS6 hS0 FI HLQ HLM;have ayl:=r6.len;go_wp2_with first
    |(refine ur (.load 50 (.tmp 3)) rfl ?_;go_must(refine uu rfl _ _ rfl w.heap.size 0 rfl BW7 14 I _ underlying50 rfl uW ds (wP I) ?_))
    |(refine ur (.store 50 (.tmp 42) (.tmp 40)) rfl (ab rfl g 46 ds B7 fO dK HM.out.one ?_))
   intro w8 B8 g8 s8;have B8:F w8 g 90 (Ef R5 (qC (.slice A x.q.name.length c) x.q) (YP gl vt5 x) qs (rxE dp {x with done:=true,vd:=fv}) ds):=by have e:=ac2 (Q:=qC (.slice A x.q.name.length c) x.q) (ms:=YP gl vt5 x) (es:=rxE dp {x with done:=true,vd:=fv}) r1 J J hq5 J ds ayl hdl;rw[hdl,List.append_assoc]at e;rw[<-e];exact B8
   have G8:w6.grownBy w8 (some g):=uC g7 g8 (.inl J);have b56:al w5 w6:=(Below.refl w5.heap.size w5).drew.trans b6;have fr8:Fr (fun i=>i=g) w6 w8:=Fr.grown G8 B6 (.inr (.inr (.inr (.inr (.inr (.inl J)))))) J;have ak1:Fr (fun i=>i=g) w5 w8:=(Fr.G (S:=fun i=>i=g) b56).trans fr8 (fun _ _ h=>h);have FF:Hid (Df w0 g gl A c As cd ({x with done:=true,vd:=fv,yr:=m},L,[]) w (.returned (.slice none 0 0)) w8):=Y (by
    refine⟨_,dp,J,vJ.nil _ _,⟨⟨fun h=>dZ,fun h=>dZ⟩,⟨qs,⟨⟨R5,vt5,ds,B8,r1,r2,r3,r4,ak1.Jv r5 cQ,ak1.yr hm5⟩,ak1.vj H5.l (fun e=>gne e.symm),H5.nm,H5.nl,H5.dr,ak1.zq H5.bw H5.bw.size (fun i hi hs=>by have:=H5.lo;omega),H5.lo,H5.ll,H5.qk⟩,fun h=>by cases h⟩⟩,?_⟩;exact(FW.out.trans (fr5.mono (fun i h=>.inl h)) (fun _ _ h=>h)).trans (ak1.mono (fun i h=>.inl h)) (fun _ _ h=>h))
   clear B8 G8 b56 fr8 ak1 B7 BW7 g8 s8;go_wp2_with fail;go_ret;rw[HR2.out];exact FF.out
  have n1:(vv==1)=false:=by simpa using v1
  by_cases v2:vv=2
  case pos=>have HR2:Hid (R=ym x L 2):=Y fh;subst v2;have C:=Y (B2.out _ HW);clear HT B1 B2 NX NH F43 D43 BW v1;exact pb
  have n2:(vv==2)=false:=by simpa using v2
  by_cases v3:vv=3
  case pos=>have HR2:Hid (R=ym x L 1):=Y fi;subst v3;have C:=Y (B1.out _ HW);clear HT B1 B2 NX NH F43 D43 BW v1 v2;exact pb
  have n3:(vv==3)=false:=by simpa using v3
  by_cases v5:vv=5
  case pos=>have HR2:Hid (R=wM {x with hard:=true} L):=Y fj;subst v5;have C:=Y (NH.out _ HW);have f43:=F43.out _ HW;have d43:=D43.out _ HW;clear HT B1 B2 NX NH F43 D43 BW v1 v2 v3;exact pb
  have n5:(vv==5)=false:=by simpa using v5
  have HR2:Hid (R=wM x L):=Y fk;have C:=Y (NX.out _ HW);clear HT B1 B2 NX NH F43 D43 BW v1 v2 v3 v5;exact pb
theorem VK{e:Ev}(h:e.kind=1)(d:Dl):vM d e=(d,[]):=by
 unfold vM;rw[if_neg (show ¬e.kind=3 by omega),if_neg (show ¬e.kind=4 by omega),if_neg (show ¬e.kind=5 by omega)];split<;>rfl
theorem VL{e:Ev}(h:e.kind=1)(y:Qy):Dm y e=(vU.zero,false):=by
 unfold Dm;rw[if_neg (by intro k;have:=k.1;omega)]
theorem YH{x:Xc}(hd:x.done=false)(U:1<=x.left)(hs:x.lg=2->x.d.st=0)(L:Lt)(e:Ev)(lf:Int)(hl:lf=if e.kind=1 then x.left-1 else x.left):
  xI x L e=if lf=0 then(if x.lg=2 then EU (xU x.d).2 (wM {x with left:=lf,d:=(xU x.d).1} L)else wM {x with left:=lf} L)
   else if x.lg=2 then(if(vM x.d e).1.st=1 then EU (vM x.d e).2 (yX {x with left:=lf,d:=(vM x.d e).1} L (vM x.d e).1.yr)
    else if(vM x.d e).1.st=2 then EU (vM x.d e).2 (wM {x with left:=lf,d:=(vM x.d e).1} L)
    else({x with left:=lf,d:=(vM x.d e).1},L,(vM x.d e).2))
   else if(Dm x.y e).2 then yX {x with left:=lf} L (Dm x.y e).1 else({x with left:=lf},L,[]):=by
 unfold xI;rw[if_neg (by rw[hd];decide)];by_cases z:e.kind=1
 ·
  rw[if_pos z]at hl;subst hl;rw[VK z,VL z,if_pos z,if_pos z];by_cases h0:x.left<=1
  ·rw[if_pos (show x.left-1=0 by omega),if_pos h0,if_pos h0]
  ·
   rw[if_neg (show ¬x.left-1=0 by omega),if_neg h0,if_neg h0];split
   ·rename_i X;rw[if_neg (by rw[hs X];decide),if_neg (by rw[hs X];decide)]
   ·rfl
 ·rw[if_neg z]at hl;subst hl;rw[if_neg z,if_neg z,if_neg (show ¬x.left=0 by omega)]
def Xc.oc(x:Xc):Prop:=x.lg=2->x.d.oc
theorem QP(x:Xc)(L:Lt)(lg:Nat):(ym x L lg).1.oc:=by
 unfold ym Xc.oc;split
 ·intro _;exact acW _
 ·rename_i h;intro k;exact absurd k h
theorem GK{x:Xc}(h:x.oc)(L:Lt):(Db x L).1.oc:=by
 unfold Db;split
 ·exact QP _ _ _
 ·exact h
theorem Uf{x:Xc}(h:x.oc)(L:Lt)(m:vU):(yX x L m).1.oc:=by
 unfold yX;split
 ·exact h
 split
 ·exact QP _ _ _
 split
 ·exact QP _ _ _
 split
 ·exact GK (x:={x with hard:=true,k:=x.k+1}) h L
 ·exact GK (x:={x with k:=x.k+1}) h L
theorem abp{d:Dl}(h:d.oc):(xU d).1.oc:=by
 unfold xU;split
 ·exact h
 ·intro k;cases k
theorem abq{x:Xc}(h:x.oc)(L:Lt)(e:Ev):(xI x L e).1.oc:=by
 unfold xI;split
 ·exact h
 split
 ·
  rename_i X;split
  ·
   split
   ·exact GK (x:={x with left:=x.left-1,d:=(xU x.d).1,k:=x.k+1}) (fun k=>abp (h k)) L
   ·exact h
  have h3:({x with d:=(vM x.d e).1}:Xc).oc:=fun k=>abl x.d e (h k)
  split
  ·exact Uf h3 L _
  split
  ·exact GK (x:={x with d:=(vM x.d e).1,k:=x.k+1}) h3 L
  ·exact h3
 split
 ·
  split
  ·exact GK (x:={x with left:=x.left-1,k:=x.k+1}) h L
  ·exact h
 split
 ·exact Uf h L _
 ·exact h
theorem ac6(cl:Int)(vc ed:Bool)(q:Qn)(tr:List vG)(L:Lt):(BL cl vc ed q tr L).1.oc:=by
 unfold BL;split
 ·intro k;cases k
 ·exact GK (x:=Dc cl vc ed q tr) (fun k=>by cases k) L
theorem Pn(w:World)(O:TypeId){lo2:Nat}{v2:Value}{o1 o2:List Ou}(U:vJ lo w v1 o1)(X:vJ lo2 w v2 o2)(uw:lo<=w.heap.size)(hl:o1.length+o2.length<=100000):
  ∃v' w',(Builtin.append_ #[34,34] O #[v1,v2]).run prog w= .ok v' w'/\vJ lo w' v' (o1++o2)/\Fr (fun i=>v1.ownBlock=some i) w w':=by
 have H1:=U;obtain⟨akk,w1,e1⟩:=U;obtain⟨ajF,w2,e2⟩:=X;obtain⟨l1,_⟩:=EF e1;obtain⟨l2,n2⟩:=EF e2;obtain⟨A2,c2,rfl⟩:=ya w2;have hn:0<o2.length->∃b off,A2=some ⟨b,off,none⟩/\w.rangeAt b off ajF.flatten:=fun hp=>by
  obtain⟨g,L,hA,Z,hL,_⟩:=AY w2 hp l2;refine⟨g,0,hA,fun j v hv=>?_⟩;rw[Nat.zero_add];refine Z.M j ?_;rw[<-hL,List.getElem?_take]at hv;split at hv
  ·exact hv
  ·cases hv
 obtain⟨v',w',hr,ho,hg⟩:=IA (P:=prog) w 34 O 97 (.agg ouZ.toArray) 21 64 underlying34 IJ (by kernel_rfl) az lo v1 o1.length akk.flatten w1 uw A2 o2.length c2 ajF.flatten hn l2 n2 aK I;exact⟨v',w',hr,⟨akk++ajF,by rw[List.flatten_append,List.length_append];exact ho,MT e1 e2⟩,H1.adq hg⟩
theorem vZ.fr{w':World}{g:Nat}{d:Dl}(h:vZ w g d A c)(k:Fr S w w')(hg:¬S g):vZ w' g d A c:=by
 obtain⟨ds,U,X,h3⟩:=h;exact⟨ds,k.vj U hg,X,k.yr h3⟩
theorem vZ.Ny{g:Nat}{d:Dl}(h:vZ w g d A c):∃L,F w g 163 L:=by
 obtain⟨ds,U,_⟩:=h;exact⟨_,U⟩
def RS(w0 w:World)(g gl:Nat)(i:Nat):Prop:=i=g\/i=gl\/w0.heap.size<=i/\∃ul,F w i 163 ul
section
variable {w0 w w' w1:World} {g gl:Nat} {A As:Option Addr} {c cd:Nat} {x:Xc} {L:Lt} {qs:List Value} {D D':Option Nat}
theorem Cv.d(h:Cv w0 w g gl A c As cd x L qs D)(d:Dl):Cv w0 w g gl A c As cd {x with d:=d} L qs D:=⟨h.b,h.l,h.nm,h.nl,h.dr,h.bw,h.lo,h.ll,h.qk⟩
theorem Cv.vj(h:Cv w0 w g gl A c As cd x L qs D):∃ul,F w g 90 ul:=by
 obtain⟨_,_,_,Z,_⟩:=h.b;exact⟨_,Z⟩
theorem zj.vj(h:zj w0 w g gl A c As cd D x L):∃ul,F w g 90 ul:=by
 obtain⟨qs,H,_⟩:=h.s;exact H.vj
theorem zj.fr(h:zj w0 w g gl A c As cd D x L)(k:Fr S w w')(hg:¬S g)(hl:¬S gl)(hD:∀i ul,D=some i->F w i 163 ul->¬S i)(K:∀i,S i->w0.heap.size<=i):zj w0 w' g gl A c As cd D x L:=by
 obtain⟨ok,qs,H,U⟩:=h;refine⟨ok,qs,H.fr k hg hl K,fun hd=>?_⟩;obtain⟨a,b,e⟩:=U hd;refine⟨a,b,fun X=>?_⟩;obtain⟨gd,hgd,h3,h4⟩:=e X;obtain⟨ul,hM⟩:=h4.Ny;exact⟨gd,hgd,h3,h4.fr k (hD gd ul hgd hM)⟩
theorem zj.G(h:zj w0 w g gl A c As cd D x L)(k:al w w'):zj w0 w' g gl A c As cd D x L:=h.fr (S:=fun _=>False) (Fr.G k) (fun h=>h) (fun h=>h) (fun _ _ _ _ h=>h) (fun _ h=>h.elim)
def JF(w0:World)(g gl:Nat)(A:Option Addr)(c:Nat)(As:Option Addr)(cd:Nat)(r:XR)(w:World)(e:Ending)(w':World):Prop:=∃v D',e= .returned v/\vJ w.heap.size w' v r.2.2/\zj w0 w' g gl A c As cd D' r.1 r.2.1/\Fr (RS w0 w g gl) w w'
theorem Df.Cm{r:XR}{o:List Ou}{v':Value}(hx:zj w0 w1 g gl A c As cd D' r.1 r.2.1)(k:Fr (RS w0 w g gl) w w1)(U:vJ lo w1 v1 o)(uw:w.heap.size<=lo)(h0:w0.heap.size<=lo)(hv:vJ lo w' v' (o++r.2.2))(f:Fr (fun i=>v1.ownBlock=some i) w1 w'):JF w0 g gl A c As cd (EU o r) w (.returned v') w':=by
 obtain⟨ul,hM⟩:=hx.vj;obtain⟨qs,H,_⟩:=hx.s;have K:∀i,v1.ownBlock=some i->lo<=i:=fun i hi=>by
  obtain⟨uo,ho,_⟩:=U;exact xZ ho i hi
 exact⟨v',D',J,hv.mono uw,hx.fr f (U.EV hM az) (U.EV H.l az) (fun i L hi Z=>U.EV Z az) (fun i hi=>Nat.le_trans h0 (K i hi)),k.trans f (fun i hi h=>by have:=K i h;omega)⟩
theorem zj.wait(ok:x.ok)(hdn:x.done=false){lf:Int}(U:1<=lf)(X:lf<=x.left){d:Dl}(H:Cv w0 w g gl A c As cd {x with left:=lf} L qs D)(hm:x.yr=vU.zero)(hq:qs=xY (.slice A x.q.name.length c) x.y)(hd:x.lg=2->d.st=0/\d.y=x.y/\d.ok/\∃gd,D=some gd/\w0.heap.size<=gd/\vZ w gd d A c):zj w0 w g gl A c As cd D {x with left:=lf,d:=d} L:=by
 have hst:=ok.st hdn;obtain⟨k1,k2,k3,k4,k5,k6⟩:=ok.go hdn;exact⟨⟨fun _=>⟨hst.ips,hst.to1,hst.to2,hst.trl,hst.err⟩,fun _=>⟨k1,U,Int.le_trans X k3,k4,k5,fun h=>⟨(hd h).1,(hd h).2.1,(hd h).2.2.1⟩⟩⟩,qs,H.d d,fun _=>⟨hm,hq,fun h=>(hd h).2.2.2⟩⟩
end
theorem Ng(w0:World)(g gl:Nat)(A:Option Addr)(c:Nat)(As:Option Addr)(cd:Nat)(D:Option Nat)(x:Xc)(L:Lt)(e:Ev)(w:World)(h:zj w0 w g gl A c As cd D x L)(hoc:x.oc)(h2:e.fr.ip.length=16)(hs:x.d.uR.length+e.data.length<=8796093022208)(hu:L.us<=999999990)(hsn:x.uV<=1000000)(hnl:x.q.name.length<=100000):
  Calls prog 37 #[.pointer (some ⟨g,0,none⟩),.agg (yj e).toArray] w (JF w0 g gl A c As cd (xI x L e) w):=by
 obtain⟨R,hR⟩:=ao (xI x L e);rw[hR.out];obtain⟨ok,qs,H,hgo⟩:=h;obtain⟨ul,vt,ds0,Z,hM,-,-,-,-,-,-,-,-,m17,-,-,-,-,m44,-,-,-,-⟩:=H.cells;have hgl:=Z.lt;have hel:=Dk h2;have E0:(yj e)[0]?=some (.int .i64 e.kind):=rfl;have HX:Below w.heap.size w (w.alloc (.cells (yj e).toArray 42)):=gF;have aeH:=F.new w 42 (yj e);obtain⟨w1,hw1⟩:=ao (w.alloc (.cells (yj e).toArray 42));rw[hw1.out]at HX aeH;have a44:=(Z.G HX hgl).M 44 m44;cases hdn:x.done with
 |true=>
  have a44:=Z.M 44 m44;rw[hdn]at a44;have FIN:Hid (JF w0 g gl A c As cd R w (.returned (.slice none 0 0)) w1):=Y (by
   rw[<-hR.out];unfold xI;rw[if_pos hdn];exact⟨_,D,J,vJ.nil _ _,⟨ok,qs,H.G HX,fun h=>absurd (hdn.symm.trans h) az⟩,Fr.G HX⟩)
  clear hR ok H hgo Z hM m17 m44 hoc aeH E0 hdn hel h2 hs HX;generalize yj e=es at*;go_enter func37,ntmps37;go_wp2_with fail;go_ret;rw[hw1.out];exact FIN.out
 |false=>
 rw[hdn]at a44;obtain⟨hmz,hqs,hdl⟩:=hgo hdn;obtain⟨z,hl1,hl2,hyq,ajX,hdo⟩:=ok.go hdn;have hst:=ok.st hdn;have hl3:x.left<=30:=mW;obtain⟨lf,hlf⟩:∃lf,Hid (lf=if e.kind=1 then x.left-1 else x.left):=gP;have HT:=Y (YH hdn hl1 (fun h=>(hdo h).1) L e lf hlf.out);rw[hR.out]at HT;have apy:0<=lf/\lf<=x.left:=by rw[hlf.out];split<;>omega
 have aoh:=apy.2;have a17:=(Z.G HX hgl).M 17 m17;have f17:=(Z.G HX hgl).frozen 17;have d0:=aeH.M 0 E0;have H1:=Y (H.G HX);have FX:Hid (Fr (fun i=>i=g) w w1):=Y (Fr.G HX);have HOK:=Y ok;have HH:=Y H;have HDL:=Y hdl;have HDO:=Y hdo;have ak2:Hid (∀(d:Dl) (k:Nat) (lg:Nat) (lf:Int),({x with left:=lf,d:=d}:Xc).st):=Y (fun d k lg lf=>⟨hst.ips,hst.to1,hst.to2,hst.trl,hst.err⟩);have HE:=Y aeH;have afK:x.y.sv.ip.length=16:=jO;have hw0:w0.heap.size<=w.heap.size:=H.bw.size;have HB:=Y Z;clear hR ok H hgo hM m17 m44 E0 HX aeH hdl hdo hst hl2 ajX Z;obtain⟨es,hes⟩:=ao (yj e);rw[hes.out]at hw1 HE hel⊢;go_enter func37,ntmps37;go_upto_region 1 with fail;rw[hw1.out];go_upto_if 14 with fail;go_cut[] (fun wx=>Cv w0 wx g gl A c As cd {x with left:=lf} L qs D/\F wx w.heap.size 42 es/\Fr (fun i=>i=g) w wx)
 case first=>
  by_cases hk1:e.kind=1
  case pos=>
   have apB:(e.kind==1)=true:=lD;obtain rfl:lf=x.left-1:=by rw[hlf.out,if_pos hk1]
   have hw:Cv w0 (w1.setCell ⟨g,17,none⟩ (.int .i64 (x.left-1))) g gl A c As cd {x with left:=x.left-1} L qs D:=H1.out.afs 4 I (.int .i64 (x.left-1)) (fun ul hM=>hM.set 17 _) (vp w1 g 17 (.int .i64 (x.left-1))) J J J J J J (fun vt=>rfl) J;have hwe:F (w1.setCell ⟨g,17,none⟩ (.int .i64 (x.left-1))) w.heap.size 42 es:=HE.out.grown (vp w1 g 17 (.int .i64 (x.left-1))) fo;have hwf:Fr (fun i=>i=g) w (w1.setCell ⟨g,17,none⟩ (.int .i64 (x.left-1))):=by obtain⟨M1,hM1⟩:=H1.out.vj;exact FX.out.trans (Fr.grown (S:=fun i=>i=g) (vp w1 g 17 (.int .i64 (x.left-1))) hM1 (.inr (.inr (.inr (.inr (.inr (.inl J)))))) J) (fun _ _ h=>h)
   have HW:=Y (And.intro hw (And.intro hwe hwf));clear hw hwe hwf H1 HE FX HT HDL ak2;go_wp2_with fail;go_meet
   case rel=>exact HW.out
  case neg=>
   have apB:(e.kind==1)=false:=lD;obtain rfl:lf=x.left:=by rw[hlf.out,if_neg hk1]
   go_wp2_with fail;go_meet
   case rel=>exact⟨H1.out,HE.out,FX.out⟩
 obtain⟨H2,E2,F2⟩:=hcut;obtain⟨w2,rfl⟩:∃w2,w2=wc:=gG;have ayf:gl<w.heap.size:=HH.out.l.lt;have DL:Hid (x.lg=2->∃gd,D=some gd/\w0.heap.size<=gd/\vZ w2 gd x.d A c/\gd≠g/\gd≠gl/\RS w0 w g gl gd/\gd<w.heap.size):=Y (fun h=>by
  obtain⟨gd,e1,e2,e3⟩:=HDL.out h;obtain⟨M3,hM3⟩:=e3.Ny;have n1:=yg hM3 HB.out az;exact⟨gd,e1,e2,e3.fr F2 n1,n1,yg hM3 HH.out.l az,.inr (.inr ⟨e2,M3,hM3⟩),hM3.lt⟩)
 have F2R:Fr (RS w0 w g gl) w w2:=F2.mono (fun _ h=>.inl h);have hw2:w.heap.size<=w2.heap.size:=F2.size;obtain⟨M2,vt2,ds2,hb2,hM2,-,-,-,-,-,-,-,m16,m17,-,m19,m42,-,-,-,-,-,-⟩:=H2.cells;have a16:w2.cell? ⟨g,16,none⟩=some (.int .i64 x.lg):=hb2.M 16 m16;have a17:w2.cell? ⟨g,17,none⟩=some (.int .i64 lf):=hb2.M 17 m17;have a42:w2.cell? ⟨g,42,none⟩=some (GR D):=hb2.M 42 m42;clear m16 m17 HDL HB H1 HE FX a44 f17 hl1 hl3 hlf;by_cases hl0:lf=0
 case pos=>
  rw[if_pos hl0]at HT;have asU:(lf==0)=true:=by simpa using hl0
  clear d0 m19;go_upto_if 32 with fail;go_cut[5] (fun v5 wx=>∃o1 d1,Hid (R=EU o1 (wM {x with left:=lf,d:=d1} L))/\vJ w.heap.size wx v5 o1/\o1.length<=1/\Cv w0 wx g gl A c As cd {x with left:=lf,d:=d1} L qs D/\Fr (RS w0 w g gl) w wx)
  case first=>
   by_cases hlg:x.lg=2
   case pos=>
    have ank:((x.lg:Int)==2)=true:=by rw[hlg];rfl
    obtain⟨gd,hD,anq,hDA,anp,apG,hRS,-⟩:=DL.out hlg;rw[hD]at a42;unfold GR at a42;have HG:=Y (YC gd x.d A c w2 hDA);have hng:=Js x.d;obtain⟨M3,hM3⟩:=hDA.Ny;rw[if_pos hlg]at HT;clear hlg hDA m42;go_wp2_with fail;refine HG.out.mono ?_;rintro _ w3 ⟨v1,rfl,hO1,hD3,g3⟩;have F3:=Fr.grown (S:=fun i=>i=gd) g3 hM3 (.inr (.inr (.inr (.inr (.inl J))))) J;have O0:vJ w.heap.size w3 (.slice none 0 0) []:=vJ.nil _ _;have H3:=H2.fr F3 anp.symm apG.symm (fun i hi=>by rw[hi];exact anq);have hw3:w2.heap.size<=w3.heap.size:=F3.size;have FF3:=F2R.trans F3 (fun i _ h=>by rw[h];exact hRS);clear HG hD3 g3 F3 a42 a16 a17 H2 F2 F2R;go_wp2_with(at_builtin;go_must(refine yP _ J (.tmp 33) (.tmp 38) J J J O0 hO1 I fP ?_));intro v' w' hO' f';have f0:Fr (fun _=>False) w3 w':=f'.mono (fun i h=>by cases h);have H4:=(H3.fr f0 (fun h=>h) (fun h=>h) (fun _ h=>h.elim)).d (xU x.d).1;have FF4:=FF3.trans f0 (fun _ _ h=>h.elim);have HW:=Y (And.intro hO' (And.intro H4 FF4));clear hO' f' f0 H4 FF4 H3 FF3 O0 hO1;go_wp2_with fail;go_meet
    case rel=>exact⟨(xU x.d).2,(xU x.d).1,HT,HW.out.1,hng,HW.out.2.1,HW.out.2.2⟩
   case neg=>
    have ank:((x.lg:Int)==2)=false:=aA;rw[if_neg hlg]at HT;clear hlg;go_wp2_with fail;go_meet
    case rel=>exact⟨[],x.d,HT,vJ.nil _ _,Nat.zero_le _,H2.d x.d,F2R⟩
  obtain⟨o1,d1,HR2,O5,ho1,H5,F5⟩:=hcut;obtain⟨w5,rfl⟩:∃w5,w5=wc:=gG;have NX:=Y (GJ w0 g gl A c As cd {x with left:=lf,d:=d1} L qs D w5 H5 (ak2.out d1 0 0 lf) hdn hmz z hu hsn);have nxl:(wM {x with left:=lf,d:=d1} L).2.2.length<=1:=BO _ _;have hw5:=F5.size;clear HT DL H2 F2 F2R a16 a17 a42 H5 hb2 m42 ak2 hl0 asU;generalize wM {x with left:=lf,d:=d1} L=r at*;go_wp2_with fail;refine NX.out.mono ?_;rintro _ w9 ⟨v2,D',rfl,hO9,hA9,hF9⟩;have O9:=O5.fr hF9 (fun b Z h=>by rcases h with h|h<;>omega);have F9:=F5.trans hF9 (fun i hi h=>h.elim .inl (fun h=>.inr (.inl h)));have asn:w5.heap.size<=w9.heap.size:=hF9.size;clear NX O5 F5 hF9;go_wp2_with(at_builtin;go_must(refine yP _ J (.tmp 40) (.tmp 42) J J J O9 hO9 I I ?_));exact qi
 rw[if_neg hl0]at HT;have asU:(lf==0)=false:=by simpa using hl0
 have hl1:1<=lf:=I;by_cases hlg:x.lg=2
 case neg=>
  rw[if_neg hlg]at HT;have ank:((x.lg:Int) !=2)=true:=aA;have LQ:∀V,al w2 V->(Instr.loadAt 30 (.pointer (some ⟨g,19,none⟩))).run prog V= .ok (.agg qs.toArray) V:=fun V hV=>(hb2.G hV hb2.lt).wS 30 19 23 I _ underlying30 J Dz _ m19
  have LE:∀V,al w2 V->(Instr.loadAt 42 (.pointer (some ⟨w.heap.size,0,none⟩))).run prog V= .ok (.agg es.toArray) V:=fun V hV=>(E2.G hV E2.lt).wS 42 0 22 I _ underlying42 J MR _ (wP I)
  have HLQ:=Y LQ;have HLE:=Y LE;have PK:=Y (fun V (hV:al w2 V)=>Uc qs x.y A c e V (Ho.G ⟨by rw[hqs,hyq],afK,by rw[hyq];exact H2.nm.G H2.bw⟩ hV) h2 (by rw[hyq];have:vB x.q.name<=400:=H2.nl;omega));rw[hes.out]at PK;obtain⟨pp,hpp⟩:=ao (Dm x.y e);rw[hpp.out]at PK HT;have HM2:=Y hmz;have HQS:=Y hqs;have HH2:=Y H2;have HF2:=Y F2R;clear hyq afK LQ LE d0 E2 hb2 hM2 m19 m42 a42 hqs H2 F2 F2R hpp h2 hs hoc hel apy;go_upto_region 12 with fail;go_cut[6,7] (fun v6 v7 wx=>∃gm ds,v6= .pointer (some ⟨gm,0,none⟩)/\v7= .bool pp.2/\F wx gm 50 ds/\vf wx ds pp.1/\al w2 wx)
  case first=>
   clear a16 a17;refine wp_region_held_drew (S:=fun V=>al w2 V) (by kernel_rfl) (Below.refl _ _).drew (fun K=>?_);refine uL K 5 [0,1,2,3,4] J (by kernel_rfl) (fun _ _ _ _ _ h=>h) J J ?_;repeat(refine aj _ ?_;simp only[E])
   (refine ah _ J J (fun V hV=>(uP 30 (.tmp 52) ⟨g,19,none⟩ J J (HLQ.out V hV))) ?_;simp only[E])
   (refine ah _ J J (fun V hV=>(uP 42 (.tmp 3) ⟨w.heap.size,0,none⟩ J J (HLE.out V hV))) ?_;simp only[E])
   simp only[vY];refine yi 5 9 (by kernel_rfl) ?_ ?_
   ·
    refine wG 5 (some 55) 35 #[.agg qs.toArray,.agg es.toArray] J J (by kernel_rfl) bp (PK.out _ K) ?_;rintro _ w3 ⟨ds,rfl,hM,b3⟩;have hdl:=hM.len;have hd1:=Y hM.one;have hS3:=um K K.size b3;refine⟨_,J,hS3,?_⟩;clear K b3;have K:=hS3;clear hS3;simp only[E];refine uL K 3 [6,7,8] J (by kernel_rfl) (fun _ _ _ _ _ h=>h) J J ?_
    (refine aj (.tuple #[.agg ds.toArray,.bool pp.2]) ?_;simp only[E])
    (refine aj (.agg ds.toArray) ?_;simp only[E])
    (refine aj (.bool pp.2) ?_;simp only[E])
    simp only[vY];have kn:Below w3.heap.size w3 (w3.alloc (.cells uX.toArray 50)):=gF;have hS4:=um K K.size kn;have hM4:=hM.G kn;have Bz:=F.new w3 50 uX;have hz:w2.heap.size<=w3.heap.size:=me;refine zz 9 (some 6) (by kernel_rfl) J J (by kernel_rfl) (v:=.pointer (some ⟨w3.heap.size,0,none⟩)) (w':=w3.alloc (.cells uX.toArray 50)) (by kernel_rfl) hS4 ?_;simp only[E];clear K hM kn;have K:=hS4;clear hS4;generalize w3.alloc (.cells uX.toArray 50)=wz at*;generalize w3.heap.size=gz at*;refine wu 10 none 50 (.tmp 6) (.tmp 56) (by kernel_rfl) J J J (by kernel_rfl) gz 0 J ds J Bz dL dK hd1.out ?_;intro w8 B8 g8 zs;clear zs;replace B8:F w8 gz 50 ds:=oL;have hM8:=hM4.vj g8 Bz;have hS8:al w2 w8:=jR;refine⟨hS8,?_⟩;clear K;have K:=hS8;simp only[E];refine uL K 1 [11] J (by kernel_rfl) (fun _ _ _ _ _ h=>h) J J ?_
    (refine aj (.bool pp.2) ?_;simp only[E])
    simp only[vY];refine wpAnyH_done (by kernel_rfl) ?_ _;exact qM
   ·
    have kn:Below w2.drew.heap.size w2.drew (w2.drew.alloc (.cells uX.toArray 50)):=gF;have hS4:=um K K.size kn;have Bn:=F.new w2.drew 50 uX;have hz:w2.heap.size<=w2.drew.heap.size:=me;refine vz 9 (some 6) (v:=.pointer (some ⟨w2.drew.heap.size,0,none⟩)) (w':=w2.drew.alloc (.cells uX.toArray 50)) J J (by kernel_rfl) (by kernel_rfl) ?_;refine⟨hS4,?_⟩;clear K kn;have K:=hS4;clear hS4;simp only[E];generalize w2.drew.alloc (.cells uX.toArray 50)=wy at*;generalize w2.drew.heap.size=gz at*;refine vx 5 (some 55) 35 #[.agg qs.toArray,.agg es.toArray] (by kernel_rfl) J J (by kernel_rfl) bp (PK.out _ K) ?_;rintro _ w3 ⟨ds,rfl,hM4,b3⟩;have hdl:=hM4.len;have hd1:=Y hM4.one;have hS3:=um K K.size b3;have Bz:=Bn.G b3 Bn.lt;refine⟨_,J,hS3,?_⟩;clear K b3 Bn;have K:=hS3;clear hS3;simp only[E];refine uL K 3 [6,7,8] J (by kernel_rfl) (fun _ _ _ _ _ h=>h) J J ?_
    (refine aj (.tuple #[.agg ds.toArray,.bool pp.2]) ?_;simp only[E])
    (refine aj (.agg ds.toArray) ?_;simp only[E])
    (refine aj (.bool pp.2) ?_;simp only[E])
    simp only[vY];refine wu 10 none 50 (.tmp 6) (.tmp 56) (by kernel_rfl) J J J (by kernel_rfl) gz 0 J ds J Bz dL dK hd1.out ?_;intro w8 B8 g8 zs;clear zs;replace B8:F w8 gz 50 ds:=oL;have hM8:=hM4.vj g8 Bz;have hS8:al w2 w8:=jR;refine⟨hS8,?_⟩;clear K;have K:=hS8;simp only[E];refine uL K 1 [11] J (by kernel_rfl) (fun _ _ _ _ _ h=>h) J J ?_
    (refine aj (.bool pp.2) ?_;simp only[E])
    simp only[vY];refine wpAnyH_done (by kernel_rfl) ?_ _;exact qM
  obtain⟨gm,ds,rfl,rfl,BM,hM5,H5⟩:=hcut;obtain⟨w5,rfl⟩:∃w5,w5=wc:=gG;have hdl:=hM5.len;have hH5:=HH2.out.G H5;have F5:=HF2.out.trans (Fr.G (S:=fun _=>False) H5) (fun _ _ h=>h.elim);have hw5:w2.heap.size<=w5.heap.size:=H5.size;have TD:=Y (Pm w0 g gl A c As cd {x with left:=lf} L qs D ds pp.1 w5 hH5 (ak2.out x.d 0 0 lf) hdn HM2.out z hu hsn hnl hM5);have FIN:Hid (JF w0 g gl A c As cd ({x with left:=lf},L,[]) w (.returned (.slice none 0 0)) w5):=Y ⟨_,D,J,vJ.nil _ _,zj.wait HOK.out hdn hl1 aoh (d:=x.d) hH5 HM2.out HQS.out (fun h=>absurd h hlg),F5⟩;have HF5:=Y F5;clear hM5 hH5 F5 PK HLQ HLE HH2 HF2 DL HOK H5 HDO;cases hp2:pp.2 with
  |false=>rw[hp2]at HT;clear TD BM;exact sf
  |true=>
   rw[hp2]at HT;have HT2:Hid (R=yX {x with left:=lf} L pp.1):=Y (by rw[HT.out];rfl);clear FIN HT;go_wp2_with(refine ur (.load 50 (.tmp 6)) J ?_;go_must(refine uu J _ _ J gm 0 J BM 14 I _ underlying50 J uW ds (wP I) ?_));refine TD.out.mono ?_;rintro _ w9 ⟨v,D',rfl,hO9,hA9,hF9⟩;have FF:Hid (JF w0 g gl A c As cd R w (.returned v) w9):=Y (by
    rw[HT2.out];exact⟨v,D',J,hO9.mono (Nat.le_trans hw2 hw5),hA9,HF5.out.trans hF9 (fun i hi h=>h.elim .inl (fun h=>.inr (.inl h)))⟩)
   clear TD hO9 hA9 hF9;go_wp2_with fail;go_ret;exact FF.out
 rw[if_pos hlg]at HT;have ank:((x.lg:Int) !=2)=false:=by rw[hlg];rfl
 obtain⟨gd,hD,anq,hDA,anp,apG,hRS,aGv⟩:=DL.out hlg;rw[hD]at a42 m42;unfold GR at a42 m42;obtain⟨hds,hdy,hdk⟩:=HDO.out hlg;obtain⟨M3,hM3⟩:=hDA.Ny;have HNM:Hid (xE w2 A c x.d.y.q.name/\vB x.d.y.q.name<=1000):=Y (by rw[hdy,hyq];exact⟨H2.nm.G H2.bw,by have:vB x.q.name<=400:=H2.nl;omega⟩);have hnA:0<x.d.y.q.name.length->∀a,A=some a->a.block≠gd:=fun hp a ha=>by
  rw[hdy,hyq]at hp;obtain⟨b,off,e1,e2,_⟩:=H2.nm.1 hp;rw[e1]at ha;injection ha with ha;subst ha;show b≠gd;omega
 have kd:Below w2.heap.size w2 w2.drew:=iQ;have HC:=Y (YD gd x.d e A c w2.drew (hDA.G kd) (HNM.out.1.G kd) hnA HNM.out.2 (hoc hlg) h2 hs);rw[hes.out]at HC;have nd:=Jr x.d e;have DY:=Y (And.intro ((Wx x.d e).trans hdy) (Tg x.d e hdk));have DS:=Y (TN x.d e);obtain⟨rd,hrd⟩:=ao (vM x.d e);rw[hrd.out]at HC HT nd DY DS;have B42:F w2.drew g 90 M2:=hb2.drew;have hS0:(Instr.loadAt 58 (.pointer (some ⟨g,42,none⟩))).run prog w2.drew= .ok (.pointer (some ⟨gd,0,none⟩)) w2.drew/\F w2.drew w.heap.size 42 es:=⟨uB underlying58 J (B42.M 42 m42),E2.drew⟩;have HLE:Hid (∀V,F V w.heap.size 42 es->(Instr.loadAt 42 (.pointer (some ⟨w.heap.size,0,none⟩))).run prog V= .ok (.agg es.toArray) V):=kA;have HM2:=Y hmz;have HQS:=Y hqs;have HH2:=Y H2;have HF2:=Y F2R;have atI:F w2.drew gd 163 M3:=hM3.drew;clear hyq afK d0 E2 hb2 hM2 m19 a42 hqs H2 F2 F2R h2 hs hoc hel apy DL HNM hnA hDA hds hdy hdk kd hM3;go_wp2_with fail;clear a16 a17;refine wp_region_held_drew (S:=fun V=>(Instr.loadAt 58 (.pointer (some ⟨g,42,none⟩))).run prog V= .ok (.pointer (some ⟨gd,0,none⟩)) V/\F V w.heap.size 42 es) (by kernel_rfl) hS0 (fun K=>?_);refine uL K 6 [0,1,2,3,4,5] J (by kernel_rfl) (fun _ _ _ _ _ h=>h) J J ?_;repeat(refine aj _ ?_;simp only[E])
 (refine ah _ J J (fun V hV=>(uP 58 (.tmp 65) ⟨g,42,none⟩ J J hV.1)) ?_;simp only[E])
 (refine ah _ J J (fun V hV=>(uP 42 (.tmp 3) ⟨w.heap.size,0,none⟩ J J (HLE.out V hV.2))) ?_;simp only[E])
 simp only[vY];refine vx 6 (some 68) 27 #[.pointer (some ⟨gd,0,none⟩),.agg es.toArray] (by kernel_rfl) J J (by kernel_rfl) bp HC.out ?_;rintro _ w3 ⟨v1,rfl,hO1,hD3,g3⟩;have F3:=Fr.grown (S:=fun i=>i=gd) g3 atI (.inr (.inr (.inr (.inr (.inl J))))) J;have B3:=B42.grown g3 (by intro e;injection e with e;exact anp e.symm);have BE3:=K.2.grown g3 fo;have O0:vJ w.heap.size w3 (.slice none 0 0) []:=vJ.nil _ _;have hw3:w2.heap.size<=w3.heap.size:=F3.size;have H3:=(HH2.out.G (Below.refl _ _).drew).fr F3 anp.symm apG.symm (fun i hi=>by rw[hi];exact anq);have FF3:=(HF2.out.trans (Fr.G (S:=fun _=>False) (Below.refl w2.heap.size w2).drew) (fun _ _ h=>h.elim)).trans F3 (fun i _ h=>by rw[h];exact hRS);obtain⟨v',w4,hr,hO4,f4⟩:=Pn w3 34 O0 hO1 I fP;have f0:Fr (fun _=>False) w3 w4:=f4.mono (fun i h=>by cases h);have B4:=f0.vj B3 (fun h=>h);have BE4:=f0.vj BE3 (fun h=>h);have hS3:(Instr.loadAt 58 (.pointer (some ⟨g,42,none⟩))).run prog w3= .ok (.pointer (some ⟨gd,0,none⟩)) w3/\F w3 w.heap.size 42 es:=⟨uB underlying58 J (B3.M 42 m42),BE3⟩;have hS4:(Instr.loadAt 58 (.pointer (some ⟨g,42,none⟩))).run prog w4= .ok (.pointer (some ⟨gd,0,none⟩)) w4/\F w4 w.heap.size 42 es:=⟨uB underlying58 J (B4.M 42 m42),BE4⟩;refine⟨_,J,hS3,?_⟩;simp only[E];refine zz 7 (some 69) (by kernel_rfl) J J (by kernel_rfl) (v:=v') (w':=w4) (Eb (.tmp 62) (.tmp 68) J J J J hr) hS4 ?_;simp only[E];clear K;have K:=hS4;refine uL K 1 [8] J (by kernel_rfl) (fun _ _ _ _ _ h=>h) J J ?_
 (refine aj v' ?_;simp only[E])
 simp only[vY];refine wpAnyH_done (by kernel_rfl) ?_ _;have H4:=H3.fr f0 (fun h=>h) (fun h=>h) (fun _ h=>h.elim);have FF4:=FF3.trans f0 (fun _ _ h=>h.elim);have D4:=hD3.fr f0 (fun h=>h);obtain⟨Ld,dsd,hbd,hLd,_,_,_,_,_,_,_,_,c25,hp,hMd,_⟩:=D4.vj;have d25:=hbd.M 25 c25;have d42:=B4.M 42 m42;rw[List.nil_append]at hO4;have HO4:=Y hO4;have HH4:=Y H4;have ak3:=Y FF4;have HD4:=Y D4;have hw4:w3.heap.size<=w4.heap.size:=f0.size;have HP:=Y hp;have HMD:=Y hMd;have hX:({x with left:=lf,d:=rd.1}:Xc).st:=ak2.out rd.1 0 0 lf;have HXS:=Y hX;clear K hS0 hS3 hS4 HC hO1 hD3 g3 F3 B3 BE3 O0 H3 FF3 hr hO4 f4 f0 BE4 B42 atI H4 FF4 D4 HH2 HF2 B4 hp hMd hX c25 ak2;by_cases s1:rd.1.st=1
 case pos=>have HR2:Hid (R=EU rd.2 (yX {x with left:=lf,d:=rd.1} L rd.1.yr)):=Y ft;rw[s1]at d25;have TD:=Y (Pm w0 g gl A c As cd {x with left:=lf,d:=rd.1} L qs (some gd) dsd rd.1.yr w4 fQ HXS.out hdn HM2.out z hu hsn hnl HMD.out);have hdl:=HMD.out.len;have nxl:(yX {x with left:=lf,d:=rd.1} L rd.1.yr).2.2.length<=1:=Gv _ _ _;clear HT s1;generalize yX {x with left:=lf,d:=rd.1} L rd.1.yr=r at*;go_wp2_with(refine ur (.load 50 (.tmp 85)) J ?_;go_must(refine uu J _ _ J gd 26 J hbd 14 I _ underlying50 J uW dsd HP.out ?_));refine TD.out.mono ?_;rintro _ w9 ⟨v2,D',rfl,hO9,hA9,hF9⟩;have O9:=HO4.out.fr hF9 (fun b Z h=>by rcases h with h|h<;>omega);have F9:=ak3.out.trans hF9 (fun i hi h=>h.elim .inl (fun h=>.inr (.inl h)));have asn:w4.heap.size<=w9.heap.size:=hF9.size;clear TD HO4 ak3 hF9 d25 d42 hbd;go_wp2_with(at_builtin;go_must(refine yP _ J (.tmp 78) (.tmp 87) J J J O9 hO9 I I ?_));exact qi
 have s1':(rd.1.st==1)=false:=by simpa using s1
 rw[if_neg s1]at HT;by_cases s2:rd.1.st=2
 case pos=>have HR2:Hid (R=EU rd.2 (wM {x with left:=lf,d:=rd.1} L)):=Y (by rw[HT.out,if_pos s2]);rw[s2]at d25;have NX:=Y (GJ w0 g gl A c As cd {x with left:=lf,d:=rd.1} L qs (some gd) w4 fQ HXS.out hdn HM2.out z hu hsn);have nxl:(wM {x with left:=lf,d:=rd.1} L).2.2.length<=1:=BO _ _;clear HT s1 s2 s1';generalize wM {x with left:=lf,d:=rd.1} L=r at*;go_wp2_with fail;refine NX.out.mono ?_;rintro _ w9 ⟨v2,D',rfl,hO9,hA9,hF9⟩;have O9:=HO4.out.fr hF9 (fun b Z h=>by rcases h with h|h<;>omega);have F9:=ak3.out.trans hF9 (fun i hi h=>h.elim .inl (fun h=>.inr (.inl h)));have asn:w4.heap.size<=w9.heap.size:=hF9.size;clear NX HO4 ak3 hF9 d25 d42 hbd;go_wp2_with(at_builtin;go_must(refine yP _ J (.tmp 97) (.tmp 99) J J J O9 hO9 I I ?_));exact qi
 have s2':(rd.1.st==2)=false:=by simpa using s2
 have FIN:Hid (JF w0 g gl A c As cd R w (.returned v') w4):=Y (by
  rw[HT.out,if_neg s2];have h0:rd.1.st=0:=by
   rcases DS.out with h|h|h
   ·exact h.trans ((HDO.out hlg).1)
   ·exact absurd h s1
   ·exact absurd h s2
  exact⟨v',D,J,HO4.out,zj.wait HOK.out hdn hl1 aoh HH4.out HM2.out HQS.out (fun _=>⟨h0,DY.out.1,DY.out.2,gd,hD,anq,HD4.out⟩),ak3.out⟩)
 clear HT HO4 HH4 ak3 HD4 HOK HMD HP hbd s1 s2;exact qS
theorem ac7(v1 v2 v3 vn:Value)(r:Rs)(q:Qn)(A:Option Addr)(n c gl:Nat)(W:World):(Instr.build 90 #[(0,.agg (Fa v1 v2 v3 r).toArray),(1,.agg (qC vn q).toArray),(2,.pointer (some ⟨gl,0,none⟩)),(3,.slice A n c)]).run prog W= .ok (.agg (Ef (Fa v1 v2 v3 r) (qC vn q) [.pointer (some ⟨gl,0,none⟩),.slice A n c,.int .i64 0,.int .i64 0,.int .i64 0,.int .i64 0] EP [.pointer none,.bool false,.bool false,.int .i64 0] uX).toArray) W:=by kernel_rfl
def VM(w0:World)(gl:Nat)(A:Option Addr)(c:Nat)(As:Option Addr)(cd:Nat)(r:XR)(w:World)(e:Ending)(w':World):Prop:=∃g v D,e= .returned (.tuple #[.pointer (some ⟨g,0,none⟩),v])/\vJ w.heap.size w' v r.2.2/\zj w0 w' g gl A c As cd D r.1 r.2.1/\Fr (fun i=>i=gl) w w'/\w.heap.size<=g
theorem Po(w0:World)(cs:List Value)(r:Rs)(q:Qn)(A:Option Addr)(c:Nat)(turn:Int)(gl:Nat)(As:Option Addr)(cd:Nat)(L:Lt)(w:World)(h:Dh w cs r)(hN:xE w0 A c q.name)(hn:q.name.length<=100000)(hls:vB q.name<=400)(hl:F w gl 86 [.slice As L.ds.length cd,.int .i64 L.us])(hd:MW w0 As L.ds)(Z:al w0 w)(hgl:w0.heap.size<=gl)(hu:L.us<=999999990):
  Calls prog 34 #[.agg cs.toArray,.agg (qC (.slice A q.name.length c) q).toArray,.int .i64 turn,.pointer (some ⟨gl,0,none⟩)] w (VM w0 gl A c As cd (BL (uJ r).cl (uJ r).vc (uJ r).ed q (vP r turn) L) w):=by
 obtain⟨R,hR⟩:=ao (BL (uJ r).cl (uJ r).vc (uJ r).ed q (vP r turn) L);rw[hR.out];have hcl:=h.len;have HX:Below w.heap.size w ((w.alloc (.cells cs.toArray 69)).alloc (.cells (qC (.slice A q.name.length c) q).toArray 28)):=gJ;have B0:=(F.new w 69 cs).alloc (.cells (qC (.slice A q.name.length c) q).toArray 28);have B1:=F.wE (w.alloc (.cells cs.toArray 69)) 28 (qC (.slice A q.name.length c) q) (w.heap.size+1) ap;obtain⟨w1,hw1⟩:=ao ((w.alloc (.cells cs.toArray 69)).alloc (.cells (qC (.slice A q.name.length c) q).toArray 28));rw[hw1.out]at HX B0 B1;obtain⟨tl,htl⟩:=ao (vP r turn);obtain⟨nt,hnt⟩:=ao tl.length;have RV:=Y (fun V (hV:al w1 V)=>DB cs r V (h.G (um HX HX.size hV)));have TR:=Y (fun V (hV:al w1 V)=>VJ cs r turn V (h.G (um HX HX.size hV)));rw[htl.out]at TR;have hN1:=Y (fun V (hV:al w1 V)=>hN.G (um Z Z.size (um HX HX.size hV)));have LR:Hid (∀V,al w1 V->(Instr.loadAt 69 (.pointer (some ⟨w.heap.size,0,none⟩))).run prog V= .ok (.agg cs.toArray) V):=Y (fun V hV=>(B0.G hV B0.lt).wS 69 0 10 I _ underlying69 J AK _ (wP I));obtain⟨nl,hnl⟩:=ao q.name.length;have LQ:Hid (∀V,al w1 V->(Instr.loadAt 28 (.pointer (some ⟨w.heap.size+1,0,none⟩))).run prog V= .ok (.agg #[.slice A nl c,.int .i64 q.O,.int .i64 q.N]) V):=Y (fun V hV=>by
  rw[<-hnl.out];exact(B1.G hV B1.lt).wS 28 0 3 (by simp[qC]) _ underlying28 J xu _ J)
 obtain⟨XC,hXC⟩:∃XC:Option Addr->Nat->Nat->Option Addr->Nat->Nat->Option Addr->Nat->Nat->Option Addr->Nat->List Value,Hid (∀A1 n1 c1 A2 n2 c2 A3 n3 c3 At ct,Ef (Fa (.slice A1 n1 c1) (.slice A2 n2 c2) (.slice A3 n3 c3) (uJ r)) (qC (.slice A q.name.length c) q) [.pointer (some ⟨gl,0,none⟩),.slice At nt ct,.int .i64 0,.int .i64 0,.int .i64 0,.int .i64 0] EP [.pointer none,.bool false,.bool false,.int .i64 0] uX=XC A1 n1 c1 A2 n2 c2 A3 n3 c3 At ct):=⟨_,Y (fun _ _ _ _ _ _ _ _ _ _ _=>rfl)⟩;have api:Hid (qC (.slice A q.name.length c) q=[.slice A nl c,.int .i64 q.O,.int .i64 q.N]):=Y (by rw[<-hnl.out];rfl);have HB:=Y Z;have HL:=Y hl;have HD:=Y hd;have HNN:=Y hN;rw[api.out]at B1;have HB1:=Y B1;clear h hl hd hN Z B0 B1;rw[api.out]at hw1⊢;go_enter func34,ntmps34;go_wp2_with fail;rw[hw1.out];go_upto_region 2 with fail;go_cut[10] (fun v10 wx=>∃gx A1 n1 c1 A2 n2 c2 A3 n3 c3 At ct,v10= .pointer (some ⟨gx,0,none⟩)/\F wx gx 90 (XC A1 n1 c1 A2 n2 c2 A3 n3 c3 At ct)/\zE wx 0 (.slice At nt ct) tl/\al w1 wx/\w1.heap.size<=gx)
 case first=>
  refine wp_region_held_drew (S:=fun V=>al w1 V) (by kernel_rfl) (Below.refl _ _).drew (fun K=>?_);refine uL K 5 [0,2,3,4,5] J (by kernel_rfl) (fun _ _ _ _ _ h=>h) J J ?_
  (refine ah _ J J (fun V hV=>(uP 69 (.tmp 4) ⟨w.heap.size,0,none⟩ J J (LR.out V hV))) ?_;simp only[E])
  (refine ah _ J J (fun V hV=>(uP 28 (.tmp 5) ⟨w.heap.size+1,0,none⟩ J J (LQ.out V hV))) ?_;simp only[E])
  (refine aj (.pointer (some ⟨gl,0,none⟩)) ?_;simp only[E])
  (refine ah _ J J (fun V hV=>(uP 69 (.tmp 4) ⟨w.heap.size,0,none⟩ J J (LR.out V hV))) ?_;simp only[E])
  (refine aj (.int .i64 turn) ?_;simp only[E])
  simp only[vY];refine uO 1 (by kernel_rfl) ?_;refine wG 1 (some 14) 91 #[.agg cs.toArray] J J (by kernel_rfl) bp (RV.out _ K) ?_;rintro _ w3 ⟨A1,c1,A2,n2,c2,A3,n3,c3,rfl,_,b3⟩;have hS3:=um K K.size b3;refine⟨_,J,hS3,?_⟩;clear K;have K:=hS3;clear hS3;simp only[E];obtain⟨n1,hn1⟩:=ao ((uJ r).sv.length);rw[hn1.out];refine uO 6 (by kernel_rfl) ?_;refine wG 6 (some 19) 41 #[.agg cs.toArray,.int .i64 turn] J J (by kernel_rfl) bp (TR.out _ K) ?_;rintro _ w4 ⟨vt,rfl,TO,b4⟩;obtain⟨At,ct,hvt⟩:=TO.form;rw[hnt.out]at hvt;subst hvt;have hS4:=um K K.size b4;refine⟨_,J,hS4,?_⟩;clear K;have K:=hS4;clear hS4;simp only[E];clear b3 b4;generalize w4=WA at*;have RB:=Y (fun V=>ac7 (.slice A1 n1 c1) (.slice A2 n2 c2) (.slice A3 n3 c3) (.slice A q.name.length c) (uJ r) q At nt ct gl V);rw[hXC.out A1 n1 c1 A2 n2 c2 A3 n3 c3 At ct,api.out]at RB;refine uL K 1 [7] J (by kernel_rfl) (fun _ _ _ _ _ h=>h) J J ?_
  (refine ah (.agg (XC A1 n1 c1 A2 n2 c2 A3 n3 c3 At ct).toArray) J J (fun V hV=>(AZ 90 _ J #[(0,.agg (Fa (.slice A1 n1 c1) (.slice A2 n2 c2) (.slice A3 n3 c3) (uJ r)).toArray),(1,.agg #[.slice A nl c,.int .i64 q.O,.int .i64 q.N]),(2,.pointer (some ⟨gl,0,none⟩)),(3,.slice At nt ct)] (by kernel_rfl) (RB.out V))) ?_;simp only[E])
  simp only[vY];have kn:Below WA.heap.size WA (WA.alloc (.cells (XC A1 n1 c1 A2 n2 c2 A3 n3 c3 At ct).toArray 90)):=gF;have hSx:=um K K.size kn;have Bn:=F.new WA 90 (XC A1 n1 c1 A2 n2 c2 A3 n3 c3 At ct);have hgz:w1.heap.size<=WA.heap.size:=me;have TO2:=uY.G TO kn (fun _ _ h=>h);refine zz 8 (some 21) (by kernel_rfl) J J (by kernel_rfl) (v:=.pointer (some ⟨WA.heap.size,0,none⟩)) (w':=WA.alloc (.cells (XC A1 n1 c1 A2 n2 c2 A3 n3 c3 At ct).toArray 90)) (by kernel_rfl) hSx ?_;simp only[E];clear K kn TO;have K:=hSx;clear hSx;generalize WA.alloc (.cells (XC A1 n1 c1 A2 n2 c2 A3 n3 c3 At ct).toArray 90)=wz at*;generalize WA.heap.size=gz at*;refine uL K 1 [9] J (by kernel_rfl) (fun _ _ _ _ _ h=>h) J J ?_
  (refine aj (.pointer (some ⟨gz,0,none⟩)) ?_;simp only[E])
  simp only[vY];refine wpAnyH_done (by kernel_rfl) ?_ _;go_wp2_with fail;go_meet
  case rel=>exact⟨gz,A1,n1,c1,A2,n2,c2,A3,n3,c3,At,ct,J,Bn,TO2,K,hgz⟩
 obtain⟨g,A1,n1,c1,A2,n2,c2,A3,n3,c3,At,ct,rfl,BX,TO,H2,hgx⟩:=hcut;obtain⟨w2,rfl⟩:∃w2,w2=wc:=gG;have HW:=um HX HX.size H2;rw[<-hXC.out]at BX;obtain⟨x0,hx0⟩:∃x0,x0=Dc (uJ r).cl (uJ r).vc (uJ r).ed q tl:=gG;have HRR:Hid (R=if(vN (vW q 0 (uJ r).ed) false).2≠0 then({x0 with done:=true,vd:=3},L,[])else Db x0 L):=Y fA;have HXS:Cv w0 w2 g gl A c As cd x0 L EP none:=by rw[hx0];refine⟨⟨_,.slice At nt ct,uX,BX,J,J,J,J,TO,vf.zero _⟩,HL.out.G HW HL.out.lt,HNN.out,hls,HD.out,um HB.out HB.out.size HW,?_,hgl,.inl J⟩;have:=HB.out.size;have:=HX.size;omega
 have HST:Hid ((vN (vW q 0 (uJ r).ed) false).2=0->x0.st):=Y (fun he=>by
  have ht:=Fy r turn;rw[htl.out]at ht;rw[hx0];exact⟨TO.ip,(Qo r).1,(Qo r).2,gE,fun id e U X=>QD he id e U X⟩)
 have hk0:x0.k<x0.tr.length:=by have ht:=Fy r turn;rw[htl.out]at ht;rw[hx0];show 0<tl.length;omega
 have hdn:x0.done=false:=oi;have hmz:x0.yr=vU.zero:=oi;have hsn:x0.uV<=1000000:=nS;have BU:=Y (fun V (hV:al w1 V)=>Ck A c q 0 false V (hN1.out V hV));have HE:Hid ((vN (vW q 0 false) false).2=0↔(vN (vW q 0 (uJ r).ed) false).2=0):=Y ⟨fun h=>QD h 0 _ az az,fun h=>QD h 0 _ az az⟩;rw[hnl.out]at BU;generalize(vN (vW q 0 false) false).1=oc at*;generalize(vN (vW q 0 false) false).2=er at*;generalize(vN (vW q 0 (uJ r).ed) false).2=er2 at*;have BQ:=HB1.out.G H2 HB1.out.lt;have BU2:=Y (BU.out w2 H2);have hgw:w.heap.size<=g:=Nat.le_trans HX.size hgx;have aum:=Y HXS;have TOR:Hid (∀V e w',al w2 V->Df w0 g gl A c As cd R V e w'->∃v,e= .returned v/\VM w0 gl A c As cd R w (.returned (.tuple #[.pointer (some ⟨g,0,none⟩),v])) w'):=Y (fun V e w' hV hx=>by
  have hWV:=um HW HW.size hV;obtain⟨v,D',rfl,U,X,h3⟩:=hx;refine⟨v,J,g,v,D',J,U.mono hWV.size,X,(Fr.G (S:=fun i=>i=gl) hWV).trans h3 (fun i hi h=>?_),hgw⟩;rcases h with h|h
  ·omega
  ·
   exact h)
 clear hx0 TO BX HXS LQ BU RV TR LR hN1 hXC hR htl;go_wp2_with(refine ur (.load 28 (.tmp 5)) J ?_;go_must(refine uu J _ _ J (w.heap.size+1) 0 J BQ 3 ap _ underlying28 J xu [.slice A nl c,.int .i64 q.O,.int .i64 q.N] J ?_));refine BU2.out.mono ?_;rintro _ w4 ⟨rfl,b4⟩;have H4:=aum.out.G b4;have asp:al w2 w4:=b4;clear BQ BU2 aum;by_cases he:er=0
 case pos=>have he2:er2=0:=HE.out.1 he;have HR2:Hid (R=Db x0 L):=Y (by rw[HRR.out,if_neg (by rw[he2];decide)]);have TY:=Y (Ue w0 g gl A c As cd x0 L EP none w4 H4 (HST.out he2) hdn hmz hk0 hu hsn);subst he;clear HE HRR HST H4 he2;go_wp2_with fail;refine TY.out.mono ?_;intro e9 w9 hx;rw[<-HR2.out]at hx;obtain⟨v,rfl,hy⟩:=TOR.out _ _ _ asp hx;have HX9:=Y hy;clear hx hy TY TOR;exact tK
 case neg=>
  have he':(er !=0)=true:=iE;have HR2:Hid (R=({x0 with done:=true,vd:=3},L,[])):=Y (by rw[HRR.out,if_pos (fun h=>he (HE.out.2 h))]);obtain⟨M4,vt4,ds4,hb4,hM4,-,-,-,-,-,-,-,-,-,-,-,-,-,m44,m45,-,-,-⟩:=H4.cells;have a44:=hb4.M 44 m44;have a45:=hb4.M 45 m45;have f44:=hb4.frozen 44;have f45:=hb4.frozen 45;have G4:w4.grownBy ((w4.setCell ⟨g,44,none⟩ (.bool true)).setCell ⟨g,45,none⟩ (.int .i64 3)) (some g):=uS (uS (World.grownBy.refl w4 (some g)) 44 (.bool true)) 45 (.int .i64 3);have HF:Hid (VM w0 gl A c As cd R w (.returned (.tuple #[.pointer (some ⟨g,0,none⟩),.slice none 0 0])) ((w4.setCell ⟨g,44,none⟩ (.bool true)).setCell ⟨g,45,none⟩ (.int .i64 3))):=Y (by
   have H5:Cv w0 ((w4.setCell ⟨g,44,none⟩ (.bool true)).setCell ⟨g,45,none⟩ (.int .i64 3)) g gl A c As cd {x0 with done:=true,vd:=3} L EP none:=H4.put G4 J J J J J H4.qk (fun R vt ds hR hd Z hM=>⟨ds,by
    have:=(Z.set 44 (.bool true)).set 45 (.int .i64 3);rw[GI hR J J H4.ql J 2 I]at this;rw[GI hR J J H4.ql J 3 I]at this;exact this,hM⟩)
   obtain⟨v,hv,hy⟩:=TOR.out w4 (.returned (.slice none 0 0)) _ asp (by
    rw[HR2.out];exact⟨_,none,J,vJ.nil _ _,⟨⟨fun h=>dZ,fun h=>dZ⟩,⟨EP,H5,fun h=>by cases h⟩⟩,Fr.grown G4 hb4 (.inr (.inr (.inr (.inr (.inr (.inl J)))))) (.inl J)⟩)
   injection hv with hv;subst hv;exact hy)
  clear HE HRR HST H4 hb4 m44 m45 G4 TOR he hM4;go_wp2_with fail;go_ret2;exact HF.out
end Go.Proofs.YthnbcmlnpdabhaaGreat
