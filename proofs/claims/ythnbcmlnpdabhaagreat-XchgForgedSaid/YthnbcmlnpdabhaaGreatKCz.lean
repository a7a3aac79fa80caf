/-
  Layer 29,the reference:told.
-/
import Derived.Test.YthnbcmlnpdabhaaGreatKBz
namespace Go.Proofs.YthnbcmlnpdabhaaGreat
open _root_.Go.Proofs.Tryz
set_option maxHeartbeats 8000000
open Go.RowKit
set_option maxRecDepth 100000
set_option linter.unusedVariables false
set_option linter.unusedSimpArgs false
variable {lo c:Nat} {v1:Value} {S:Nat->Prop} {w:World} {A:Option Addr}
theorem Oy(w0:World)(g gl:Nat)(A:Option Addr)(c:Nat)(As:Option Addr)(cd:Nat)(x:Xc)(L:Lt)(qs:List Value)(dp:Option Nat)(ds:List Value)(m:vo)(w:World)(h:BS w0 w g gl A c As cd x L qs dp)(hst:x.st)(hdn:x.done=false)(hmz:x.xP=vo.zero)(O:x.k<x.tr.length)(hu:L.us<=999999990)(hsn:x.uz<=1000000)(hnl:x.q.name.length<=100000)(hm:uA w ds m):
  Calls prog 94 #[.pointer (some ⟨g,0,none⟩),.agg ds.toArray] w (Cr w0 g gl A c As cd (yC x L m) w):=by
 obtain⟨R,hR⟩:=ao (yC x L m);rw[hR.out];have hdl:=hm.len;have hhd:=hm.head;have HM:=Y hm;obtain⟨cb,hcb⟩:=ao (decide (x.lg=2));obtain⟨eb,heb⟩:=ao x.yc;have HT:Hid (R=if xc m.hd cb eb=1 then({x with done:=true,vd:=yO x.q m,xP:=m},L,[])
  else if xc m.hd cb eb=2 then xM x L 2
  else if xc m.hd cb eb=3 then xM x L 1
  else if xc m.hd cb eb=5 then vZ {x with hard:=true} L
  else vZ x L):=Y (by rw[<-hcb.out,<-heb.out,<-hR.out];rfl)
 have VO:=Y (fun V=>aaq m.hd cb eb V);obtain⟨bz,hbz⟩:=ao ((((x.lg:Nat):Int)==0));have hez:Hid ((bz&&x.ed)=eb):=Y (by
  rw[<-heb.out,<-hbz.out];unfold Xc.yc;congr 1;rw[Bool.eq_iff_iff];simp)
 have asf:Hid ((((x.lg:Nat):Int)==2)=cb):=Y (by
  rw[<-hcb.out,Bool.eq_iff_iff];simp;omega)
 obtain⟨h2,vt,ds0,F,hM,m4,m7,m9,m10,m13,m14,m15,m16,m17,m18,m19,m42,m43,m44,m45,m46,hTr,hm0⟩:=h.cells;have gne:=h.ne;have hgl:=F.lt;have HB:=Y F;have H:=Lib.hid h;have L16:=Y (fun V (hV:al w V)=>tV underlying3 J ((F.G hV hgl).K 16 m16));have L9:=Y (fun V (hV:al w V)=>tV underlying4 J ((F.G hV hgl).K 9 m9));have B2:=Y (fun V hV=>Eb w0 g gl A c As cd x L qs dp 2 V (h.G hV) hst hdn hmz O hu hsn I);have B1:=Y (fun V hV=>Eb w0 g gl A c As cd x L qs dp 1 V (h.G hV) hst hdn hmz O hu hsn I);have NX:=Y (fun V hV=>FM w0 g gl A c As cd x L qs dp V (h.G hV) hst hdn hmz O hu hsn);have NH:Hid (∀V,al w V->Calls prog 93 #[.pointer (some ⟨g,0,none⟩)] (V.setCell ⟨g,43,none⟩ (.bool true)) (Cr w0 g gl A c As cd (vZ {x with hard:=true} L) V)):=Y (fun V hV=>by
  have afr:=uL V g 43 (.bool true);have hX:BS w0 (V.setCell ⟨g,43,none⟩ (.bool true)) g gl A c As cd {x with hard:=true} L qs dp:=(h.G hV).adO 1 I (.bool true) (fun h2 hM=>hM.set 43 _) afr J J J J J J (fun vt=>rfl) J;have fr:Fr (fun i=>i=g) V (V.setCell ⟨g,43,none⟩ (.bool true)):=Fr.grown afr (F.G hV F.lt) (.inr (.inr (.inr (.inr (.inr (.inl J)))))) J;exact(FM w0 g gl A c As cd {x with hard:=true} L qs dp _ hX ⟨hst.ips,hst.to1,hst.to2,hst.trl,hst.err⟩ hdn hmz O hu hsn).mono (fun e w' hx=>hx.back (fr.mono (fun _ h=>.inl h))))
 have D43:=Y (fun V (hV:al w V)=>(F.G hV F.lt).K 43 m43);have F43:=Y (fun V (hV:al w V)=>(F.G hV F.lt).frozen 43);have D44:=Y (fun V (hV:al w V)=>(F.G hV F.lt).K 44 m44);have F44:=Y (fun V (hV:al w V)=>(F.G hV F.lt).frozen 44);have HX:Below w.heap.size w (w.alloc (.cells ds.toArray 50)):=gj;have BX:=Z.new w 50 ds;clear F hTr hm0 m4 m7 m9 m10 m13 m14 m15 m16 m17 m18 m19 m42 m43 m44 m45 m46 hR h hst hm heb hcb;generalize xc m.hd cb eb=vv at*;obtain⟨fv,hfv⟩:=ao (yO x.q m);rw[hfv.out]at HT;generalize m.hd.vJ=hv at*;obtain⟨W0,hW0⟩:=ao (w.alloc (.cells ds.toArray 50));rw[hW0.out]at HX BX;go_enter func94,ntmps94;go_wp2_with fail;rw[hW0.out];refine wp_region_held_drew (S:=fun V=>al W0 V) (by kernel_rfl) (Below.refl _ _).drew (fun M=>?_);cases bz
 case' false=>
  obtain rfl:false=eb:=hez.out;refine uh M 19 [0,1,2,3,4,5,6,7,8,9,10,11,12,13,14,15,16,17,18] J (by kernel_rfl) (fun _ _ _ _ _ h=>h) J J ?_
  (refine aj (.pointer (some ⟨w.heap.size,0,none⟩)) ?_;simp only[z])
  (refine ah _ J J (fun V hV=>(ul 46 (.tmp 5) ⟨w.heap.size,0,none⟩ J J ((BX.G hV BX.lt).wk 46 0 10 I _ underlying46 J aak _ hhd))) ?_;simp only[z])
  repeat(refine aj _ ?_;simp only[z])
  (refine ah _ J J (fun V hV=>(ul 3 (.tmp 9) ⟨g,16,none⟩ J J (L16.out V (tL HX HX.size hV)))) ?_;simp only[z])
  (refine ah (.bool cb) J J (fun V hV=>fI) ?_;simp only[z])
  repeat(refine aj _ ?_;simp only[z])
  (refine ah _ J J (fun V hV=>(ul 3 (.tmp 14) ⟨g,16,none⟩ J J (L16.out V (tL HX HX.size hV)))) ?_;simp only[z])
  (refine ah (.bool false) J J (fun V hV=>fJ) ?_;simp only[z])
  (refine aj (.bool false) ?_;simp only[z])
  repeat(refine⟨_,undef,J,.inr ⟨J,J⟩,?_⟩;simp only[z])
  (refine aj (.bool false) ?_;simp only[z])
  simp only[vx]
 case' true=>
  obtain rfl:x.ed=eb:=hez.out;refine uh M 19 [0,1,2,3,4,5,6,7,8,9,10,11,12,13,14,15,16,17,18] J (by kernel_rfl) (fun _ _ _ _ _ h=>h) J J ?_
  (refine aj (.pointer (some ⟨w.heap.size,0,none⟩)) ?_;simp only[z])
  (refine ah _ J J (fun V hV=>(ul 46 (.tmp 5) ⟨w.heap.size,0,none⟩ J J ((BX.G hV BX.lt).wk 46 0 10 I _ underlying46 J aak _ hhd))) ?_;simp only[z])
  repeat(refine aj _ ?_;simp only[z])
  (refine ah _ J J (fun V hV=>(ul 3 (.tmp 9) ⟨g,16,none⟩ J J (L16.out V (tL HX HX.size hV)))) ?_;simp only[z])
  (refine ah (.bool cb) J J (fun V hV=>fI) ?_;simp only[z])
  repeat(refine aj _ ?_;simp only[z])
  (refine ah _ J J (fun V hV=>(ul 3 (.tmp 14) ⟨g,16,none⟩ J J (L16.out V (tL HX HX.size hV)))) ?_;simp only[z])
  (refine ah (.bool true) J J (fun V hV=>fJ) ?_;simp only[z])
  repeat(refine aj _ ?_;simp only[z])
  (refine ah _ J J (fun V hV=>(ul 4 (.tmp 21) ⟨g,9,none⟩ J J (L9.out V (tL HX HX.size hV)))) ?_;simp only[z])
  (refine aj (.bool x.ed) ?_;simp only[z])
  simp only[vx]
 all_goals
  refine uO 19 (some 24) 148 #[.agg hv.toArray,.bool cb,.bool _] (by kernel_rfl) J J (by kernel_rfl) bm (VO.out _) ?_;rintro _ w4 ⟨rfl,b4⟩;have M:=tL M M.size b4;refine⟨_,J,M,?_⟩;simp only[z];refine wpAnyH_done (by kernel_rfl) ?_ _;have HW:=tL HX HX.size M;have BW:=BX.G M BX.lt;have FW:Hid (Fr (LS g gl) w w4):=Y (Fr.G HW);clear HX BX M b4 VO hhd L16 L9 hez asf hbz;by_cases v1:vv=1
  case pos=>
   have HR2:Hid (R=({x with done:=true,vd:=fv,xP:=m},L,[])):=Y ff;subst v1;clear B1 B2 NX NH D43 F43 HT;have f44:=F44.out _ HW;have d44:=D44.out _ HW;clear F44 D44;go_upto_region 4 with fail;obtain⟨w5,hw5⟩:∃w5,w5=w4.setCell ⟨g,44,none⟩ (.bool true):=gp;have G5:w4.grownBy w5 (some g):=by rw[hw5];exact uL w4 g 44 (.bool true)
   have H5:BS w0 w5 g gl A c As cd {x with done:=true} L qs dp:=by rw[hw5];exact(H.out.G HW).adO 2 I (.bool true) (fun h2 hM=>hM.set 44 _) (uL w4 g 44 (.bool true)) J J J J J J (fun vt=>rfl) J
   have fr5:Fr (fun i=>i=g) w4 w5:=Fr.grown G5 (HB.out.G HW hgl) (.inr (.inr (.inr (.inr (.inr (.inl J)))))) J;have hm5:uA w5 ds m:=fr5.xP (HM.out.G HW);have hN5:xj w5 A c x.q.name:=H5.nm.G H5.bw;change Code.wp _ _ _ _ (w4.setCell ⟨g,44,none⟩ (.bool true));rw[<-hw5];clear hw5;have gm:w.heap.size≠g:=I;have BW5:Z w5 w.heap.size 50 ds:=BW.grown G5 fK;have hq5:=H5.ql;obtain⟨R5,vt5,ds5,hb5,r1,r2,r3,r4,r5,r6⟩:=H5.b;have LQ:∀V es,es.length=4->Z V g 90 (Dx R5 (qC (.slice A x.q.name.length c) x.q) (XX gl vt5 x) qs es ds5)->(Instr.loadAt 28 (.pointer (some ⟨g,10,none⟩))).run prog V= .ok (.agg #[.slice A x.q.name.length c,.int .i64 x.q.E,.int .i64 x.q.N]) V:=fun V es he hV=>hV.wk 28 10 3 (by rw[Jd r1 J J hq5 he];omega) _ underlying28 J xh _ (aca r1 J J hq5 he)
   have LM:∀V,Z V w.heap.size 50 ds->(Instr.loadAt 50 (.pointer (some ⟨w.heap.size,0,none⟩))).run prog V= .ok (.agg ds.toArray) V:=kx;have FI:=Y (UJ x.q A c ds m w5.drew (hN5.G (Below.refl _ _).drew) hnl (hm5.G (Below.refl _ _).drew));rw[hfv.out]at FI;have hS0:=And.intro (LQ w5.drew _ J hb5.drew) (LM _ BW5.drew);have HLQ:=Y LQ;have HLM:=Y LM;clear LQ LM;go_wp2_with fail;refine wp_region_held_drew (S:=fun V=>(Instr.loadAt 28 (.pointer (some ⟨g,10,none⟩))).run prog V= .ok (.agg #[.slice A x.q.name.length c,.int .i64 x.q.E,.int .i64 x.q.N]) V/\(Instr.loadAt 50 (.pointer (some ⟨w.heap.size,0,none⟩))).run prog V= .ok (.agg ds.toArray) V) (by kernel_rfl) hS0 (fun M=>?_);refine uh M 6 [0,1,2,3,4,5] J (by kernel_rfl) (fun _ _ _ _ _ h=>h) J J ?_;repeat(refine aj _ ?_;simp only[z])
   (refine ah _ J J (fun V hV=>(ul 28 (.tmp 33) ⟨g,10,none⟩ J J hV.1)) ?_;simp only[z])
   (refine ah _ J J (fun V hV=>(ul 50 (.tmp 3) ⟨w.heap.size,0,none⟩ J J hV.2)) ?_;simp only[z])
   simp only[vx];refine um 6 (by kernel_rfl) ?_;refine vO 6 (some 36) 149 #[.agg #[.slice A x.q.name.length c,.int .i64 x.q.E,.int .i64 x.q.N],.agg ds.toArray] J J (by kernel_rfl) bm FI.out ?_;rintro _ w6 ⟨rfl,b6⟩;have B6:=hb5.drew.G b6 hb5.drew.lt;have BW6:Z w6 w.heap.size 50 ds:=BW5.drew.G b6 BW5.drew.lt;have hS6:=And.intro (HLQ.out _ _ J B6) (HLM.out _ BW6);refine⟨_,J,hS6,?_⟩;have M:=hS6;simp only[z];refine uh M 2 [7,8] J (by kernel_rfl) (fun _ _ _ _ _ h=>h) J J ?_
   (refine aj (.pointer (some ⟨g,0,none⟩)) ?_;simp only[z])
   (refine aj (.pointer (some ⟨g,45,none⟩)) ?_;simp only[z])
   simp only[vx];refine um 9 (by kernel_rfl) ?_;refine xx 9 3 (.tmp 38) (.tmp 36) J J J (by kernel_rfl) g 45 J (.int .i64 fv) J B6 fL uB J J ?_;intro w7 B7 g7 s7;rw[FL r1 J J hq5 J 3 I]at B7;have BW7:Z w7 w.heap.size 50 ds:=BW6.grown g7 fK;refine⟨⟨HLQ.out _ _ J B7,HLM.out _ BW7⟩,?_⟩;simp only[z];refine wpAnyH_done (by kernel_rfl) ?_ _;clear M hS6 hS0 FI HLQ HLM;have axe:=r6.len;go_wp2_with first
    |(refine tO (.load 50 (.tmp 3)) rfl ?_;go_must(refine tP rfl _ _ rfl w.heap.size 0 rfl BW7 14 I _ underlying50 rfl ux ds (wg I) ?_))
    |(refine tO (.store 50 (.tmp 42) (.tmp 40)) rfl (ab rfl g 46 ds B7 fL dJ HM.out.one ?_))
   intro w8 B8 g8 s8;have B8:Z w8 g 90 (Dx R5 (qC (.slice A x.q.name.length c) x.q) (XX gl vt5 x) qs (rxE dp {x with done:=true,vd:=fv}) ds):=by have e:=ace (Q:=qC (.slice A x.q.name.length c) x.q) (ms:=XX gl vt5 x) (es:=rxE dp {x with done:=true,vd:=fv}) r1 J J hq5 J ds axe hdl;rw[hdl,List.append_assoc]at e;rw[<-e];exact B8
   have G8:w6.grownBy w8 (some g):=tU g7 g8 (.inl J);have b56:al w5 w6:=(Below.refl w5.heap.size w5).drew.trans b6;have fr8:Fr (fun i=>i=g) w6 w8:=Fr.grown G8 B6 (.inr (.inr (.inr (.inr (.inr (.inl J)))))) J;have aj7:Fr (fun i=>i=g) w5 w8:=(Fr.G (S:=fun i=>i=g) b56).trans fr8 (fun _ _ h=>h);have FF:Hid (Cr w0 g gl A c As cd ({x with done:=true,vd:=fv,xP:=m},L,[]) w (.returned (.slice none 0 0)) w8):=Y (by
    refine⟨_,dp,J,vI.nil _ _,⟨⟨fun h=>dY,fun h=>dY⟩,⟨qs,⟨⟨R5,vt5,ds,B8,r1,r2,r3,r4,aj7.I5 r5 cQ,aj7.xP hm5⟩,aj7.uG H5.l (fun e=>gne e.symm),H5.nm,H5.nl,H5.dr,aj7.zN H5.bw H5.bw.size (fun i hi hs=>by have:=H5.lo;omega),H5.lo,H5.ll,H5.qk⟩,fun h=>by cases h⟩⟩,?_⟩;exact(FW.out.trans (fr5.mono (fun i h=>.inl h)) (fun _ _ h=>h)).trans (aj7.mono (fun i h=>.inl h)) (fun _ _ h=>h))
   clear B8 G8 b56 fr8 aj7 B7 BW7 g8 s8;go_wp2_with fail;go_ret;rw[HR2.out];exact FF.out
  have n1:(vv==1)=false:=by simpa using v1
  by_cases v2:vv=2
  case pos=>have HR2:Hid (R=xM x L 2):=Y fg;subst v2;have C:=Y (B2.out _ HW);clear HT B1 B2 NX NH F43 D43 BW v1;exact oD
  have n2:(vv==2)=false:=by simpa using v2
  by_cases v3:vv=3
  case pos=>have HR2:Hid (R=xM x L 1):=Y fh;subst v3;have C:=Y (B1.out _ HW);clear HT B1 B2 NX NH F43 D43 BW v1 v2;exact oD
  have n3:(vv==3)=false:=by simpa using v3
  by_cases v5:vv=5
  case pos=>have HR2:Hid (R=vZ {x with hard:=true} L):=Y fi;subst v5;have C:=Y (NH.out _ HW);have f43:=F43.out _ HW;have d43:=D43.out _ HW;clear HT B1 B2 NX NH F43 D43 BW v1 v2 v3;exact oD
  have n5:(vv==5)=false:=by simpa using v5
  have HR2:Hid (R=vZ x L):=Y fj;have C:=Y (NX.out _ HW);clear HT B1 B2 NX NH F43 D43 BW v1 v2 v3 v5;exact oD
theorem US{e:Ev}(h:e.kind=1)(d:Dl):uW d e=(d,[]):=by
 unfold uW;rw[if_neg (show ¬e.kind=3 by omega),if_neg (show ¬e.kind=4 by omega),if_neg (show ¬e.kind=5 by omega)];split<;>rfl
theorem UT{e:Ev}(h:e.kind=1)(y:Qy):A8 y e=(vo.zero,false):=by
 unfold A8;rw[if_neg (by intro k;have:=k.1;omega)]
theorem XL{x:Xc}(hd:x.done=false)(U:1<=x.left)(hs:x.lg=2->x.d.st=0)(L:Lt)(e:Ev)(lf:Int)(hl:lf=if e.kind=1 then x.left-1 else x.left):
  wU x L e=if lf=0 then(if x.lg=2 then Eh (xB x.d).2 (vZ {x with left:=lf,d:=(xB x.d).1} L)else vZ {x with left:=lf} L)
   else if x.lg=2 then(if(uW x.d e).1.st=1 then Eh (uW x.d e).2 (yC {x with left:=lf,d:=(uW x.d e).1} L (uW x.d e).1.xP)
    else if(uW x.d e).1.st=2 then Eh (uW x.d e).2 (vZ {x with left:=lf,d:=(uW x.d e).1} L)
    else({x with left:=lf,d:=(uW x.d e).1},L,(uW x.d e).2))
   else if(A8 x.y e).2 then yC {x with left:=lf} L (A8 x.y e).1 else({x with left:=lf},L,[]):=by
 unfold wU;rw[if_neg eP];by_cases O:e.kind=1
 ·
  rw[if_pos O]at hl;subst hl;rw[US O,UT O,if_pos O,if_pos O];by_cases h0:x.left<=1
  ·rw[if_pos (show x.left-1=0 by omega),if_pos h0,if_pos h0]
  ·
   rw[if_neg (show ¬x.left-1=0 by omega),if_neg h0,if_neg h0];split
   ·rename_i X;rw[if_neg (by rw[hs X];decide),if_neg (by rw[hs X];decide)]
   ·rfl
 ·rw[if_neg O]at hl;subst hl;rw[if_neg O,if_neg O,if_neg (show ¬x.left=0 by omega)]
def Xc.oc(x:Xc):Prop:=x.lg=2->x.d.oc
theorem P7(x:Xc)(L:Lt)(lg:Nat):(xM x L lg).1.oc:=by
 unfold xM Xc.oc;split
 ·intro _;exact ab7 _
 ·rename_i h;intro k;exact absurd k h
theorem FP{x:Xc}(h:x.oc)(L:Lt):(Cp x L).1.oc:=by
 unfold Cp;split
 ·exact P7 _ _ _
 ·exact h
theorem Ta{x:Xc}(h:x.oc)(L:Lt)(m:vo):(yC x L m).1.oc:=by
 unfold yC;split
 ·exact h
 split
 ·exact P7 _ _ _
 split
 ·exact P7 _ _ _
 split
 ·exact FP (x:={x with hard:=true,k:=x.k+1}) h L
 ·exact FP (x:={x with k:=x.k+1}) h L
theorem aaD{d:Dl}(h:d.oc):(xB d).1.oc:=by
 unfold xB;split
 ·exact h
 ·intro k;cases k
theorem aaE{x:Xc}(h:x.oc)(L:Lt)(e:Ev):(wU x L e).1.oc:=by
 unfold wU;split
 ·exact h
 split
 ·
  rename_i X;split
  ·
   split
   ·exact FP (x:={x with left:=x.left-1,d:=(xB x.d).1,k:=x.k+1}) (fun k=>aaD (h k)) L
   ·exact h
  have h3:({x with d:=(uW x.d e).1}:Xc).oc:=fun k=>aaz x.d e (h k)
  split
  ·exact Ta h3 L _
  split
  ·exact FP (x:={x with d:=(uW x.d e).1,k:=x.k+1}) h3 L
  ·exact h3
 split
 ·
  split
  ·exact FP (x:={x with left:=x.left-1,k:=x.k+1}) h L
  ·exact h
 split
 ·exact Ta h L _
 ·exact h
theorem aci(hS:Int)(vc ed:Bool)(q:Qn)(tr:List uV)(L:Lt):(AU hS vc ed q tr L).1.oc:=by
 unfold AU;split
 ·intro k;cases k
 ·exact FP (x:=Cq hS vc ed q tr) (fun k=>by cases k) L
theorem XM(w:World)(E:TypeId){lo2:Nat}{v2:Value}{o1 o2:List Ou}(U:vI lo w v1 o1)(X:vI lo2 w v2 o2)(tK:lo<=w.heap.size)(hl:o1.length+o2.length<=100000):
  ∃v' w',(Builtin.append_ #[34,34] E #[v1,v2]).run prog w= .ok v' w'/\vI lo w' v' (o1++o2)/\Fr (fun i=>v1.ownBlock=some i) w w':=by
 have H1:=U;obtain⟨alo,w1,e1⟩:=U;obtain⟨aj8,w2,e2⟩:=X;obtain⟨l1,_⟩:=Io e1;obtain⟨l2,n2⟩:=Io e2;obtain⟨A2,c2,rfl⟩:=yg w2;have hn:0<o2.length->∃b off,A2=some ⟨b,off,none⟩/\w.rangeAt b off aj8.flatten:=fun hp=>by
  obtain⟨g,L,hA,F,hL,_⟩:=Dn w2 hp l2;refine⟨g,0,hA,fun j v hv=>?_⟩;rw[Nat.zero_add];refine F.K j ?_;rw[<-hL,List.getElem?_take]at hv;split at hv
  ·exact hv
  ·cases hv
 obtain⟨v',w',hr,ho,hg⟩:=Lk (P:=prog) w 34 E 97 (.agg ouZ.toArray) 21 64 underlying34 Kd (by kernel_rfl) ax lo v1 o1.length alo.flatten w1 tK A2 o2.length c2 aj8.flatten hn l2 n2 aJ I;exact⟨v',w',hr,⟨alo++aj8,by rw[List.flatten_append,List.length_append];exact ho,Mh e1 e2⟩,H1.acy hg⟩
theorem vA.fr{w':World}{g:Nat}{d:Dl}(h:vA w g d A c)(k:Fr S w w')(hg:¬S g):vA w' g d A c:=by
 obtain⟨ds,U,X,h3⟩:=h;exact⟨ds,k.uG U hg,X,k.xP h3⟩
theorem vA.MJ{g:Nat}{d:Dl}(h:vA w g d A c):∃L,Z w g 163 L:=by
 obtain⟨ds,U,_⟩:=h;exact⟨_,U⟩
def RS(w0 w:World)(g gl:Nat)(i:Nat):Prop:=i=g\/i=gl\/w0.heap.size<=i/\∃h2,Z w i 163 h2
section
variable {w0 w w' w1:World} {g gl:Nat} {A As:Option Addr} {c cd:Nat} {x:Xc} {L:Lt} {qs:List Value} {D D':Option Nat}
theorem BS.d(h:BS w0 w g gl A c As cd x L qs D)(d:Dl):BS w0 w g gl A c As cd {x with d:=d} L qs D:=⟨h.b,h.l,h.nm,h.nl,h.dr,h.bw,h.lo,h.ll,h.qk⟩
theorem BS.uG(h:BS w0 w g gl A c As cd x L qs D):∃h2,Z w g 90 h2:=by
 obtain⟨_,_,_,F,_⟩:=h.b;exact⟨_,F⟩
theorem zU.uG(h:zU w0 w g gl A c As cd D x L):∃h2,Z w g 90 h2:=by
 obtain⟨qs,H,_⟩:=h.s;exact H.uG
theorem zU.fr(h:zU w0 w g gl A c As cd D x L)(k:Fr S w w')(hg:¬S g)(hl:¬S gl)(hD:∀i h2,D=some i->Z w i 163 h2->¬S i)(M:∀i,S i->w0.heap.size<=i):zU w0 w' g gl A c As cd D x L:=by
 obtain⟨ok,qs,H,U⟩:=h;refine⟨ok,qs,H.fr k hg hl M,fun hd=>?_⟩;obtain⟨a,b,e⟩:=U hd;refine⟨a,b,fun X=>?_⟩;obtain⟨gd,hgd,h3,h4⟩:=e X;obtain⟨h2,hM⟩:=h4.MJ;exact⟨gd,hgd,h3,h4.fr k (hD gd h2 hgd hM)⟩
theorem zU.G(h:zU w0 w g gl A c As cd D x L)(k:al w w'):zU w0 w' g gl A c As cd D x L:=h.fr (S:=fun _=>False) (Fr.G k) (fun h=>h) (fun h=>h) (fun _ _ _ _ h=>h) (fun _ h=>h.elim)
def Je(w0:World)(g gl:Nat)(A:Option Addr)(c:Nat)(As:Option Addr)(cd:Nat)(r:XR)(w:World)(e:Ending)(w':World):Prop:=∃v D',e= .returned v/\vI w.heap.size w' v r.2.2/\zU w0 w' g gl A c As cd D' r.1 r.2.1/\Fr (RS w0 w g gl) w w'
theorem Cr.CY{r:XR}{o:List Ou}{v':Value}(hx:zU w0 w1 g gl A c As cd D' r.1 r.2.1)(k:Fr (RS w0 w g gl) w w1)(U:vI lo w1 v1 o)(tK:w.heap.size<=lo)(h0:w0.heap.size<=lo)(hv:vI lo w' v' (o++r.2.2))(f:Fr (fun i=>v1.ownBlock=some i) w1 w'):Je w0 g gl A c As cd (Eh o r) w (.returned v') w':=by
 obtain⟨h2,hM⟩:=hx.uG;obtain⟨qs,H,_⟩:=hx.s;have M:∀i,v1.ownBlock=some i->lo<=i:=fun i hi=>by
  obtain⟨css,ho,_⟩:=U;exact yI ho i hi
 exact⟨v',D',J,hv.mono tK,hx.fr f (U.PS hM ax) (U.PS H.l ax) (fun i L hi F=>U.PS F ax) (fun i hi=>Nat.le_trans h0 (M i hi)),k.trans f (fun i hi h=>by have:=M i h;omega)⟩
theorem zU.wait(ok:x.ok)(hdn:x.done=false){lf:Int}(U:1<=lf)(X:lf<=x.left){d:Dl}(H:BS w0 w g gl A c As cd {x with left:=lf} L qs D)(hm:x.xP=vo.zero)(hq:qs=xX (.slice A x.q.name.length c) x.y)(hd:x.lg=2->d.st=0/\d.y=x.y/\d.ok/\∃gd,D=some gd/\w0.heap.size<=gd/\vA w gd d A c):zU w0 w g gl A c As cd D {x with left:=lf,d:=d} L:=by
 have hst:=ok.st hdn;obtain⟨k1,k2,k3,k4,k5,k6⟩:=ok.go hdn;exact⟨⟨fun _=>⟨hst.ips,hst.to1,hst.to2,hst.trl,hst.err⟩,fun _=>⟨k1,U,Int.le_trans X k3,k4,k5,fun h=>⟨(hd h).1,(hd h).2.1,(hd h).2.2.1⟩⟩⟩,qs,H.d d,fun _=>⟨hm,hq,fun h=>(hd h).2.2.2⟩⟩
end
theorem UU(w0:World)(g gl:Nat)(A:Option Addr)(c:Nat)(As:Option Addr)(cd:Nat)(D:Option Nat)(x:Xc)(L:Lt)(e:Ev)(w:World)(h:zU w0 w g gl A c As cd D x L)(hoc:x.oc)(ty:e.fr.ip.length=16)(hs:x.d.aA.length+e.data.length<=8796093022208)(hu:L.us<=999999990)(hsn:x.uz<=1000000)(hnl:x.q.name.length<=100000):
  Calls prog 37 #[.pointer (some ⟨g,0,none⟩),.agg (xA e).toArray] w (Je w0 g gl A c As cd (wU x L e) w):=by
 obtain⟨R,hR⟩:=ao (wU x L e);rw[hR.out];obtain⟨ok,qs,H,hgo⟩:=h;obtain⟨h2,vt,ds0,F,hM,-,-,-,-,-,-,-,-,m17,-,-,-,-,m44,-,-,-,-⟩:=H.cells;have hgl:=F.lt;have hel:=Cv ty;have E0:(xA e)[0]?=some (.int .i64 e.kind):=rfl;have HX:Below w.heap.size w (w.alloc (.cells (xA e).toArray 42)):=gj;have aeq:=Z.new w 42 (xA e);obtain⟨w1,hw1⟩:=ao (w.alloc (.cells (xA e).toArray 42));rw[hw1.out]at HX aeq;have a44:=(F.G HX hgl).K 44 m44;cases hdn:x.done with
 |true=>
  have a44:=F.K 44 m44;rw[hdn]at a44;have FIN:Hid (Je w0 g gl A c As cd R w (.returned (.slice none 0 0)) w1):=Y (by
   rw[<-hR.out];unfold wU;rw[if_pos hdn];exact⟨_,D,J,vI.nil _ _,⟨ok,qs,H.G HX,fun h=>absurd (hdn.symm.trans h) ax⟩,Fr.G HX⟩)
  clear hR ok H hgo F hM m17 m44 hoc aeq E0 hdn hel ty hs HX;generalize xA e=es at*;go_enter func37,ntmps37;go_wp2_with fail;go_ret;rw[hw1.out];exact FIN.out
 |false=>
 rw[hdn]at a44;obtain⟨hmz,hqs,hdl⟩:=hgo hdn;obtain⟨O,hl1,hl2,hyq,akP,hdo⟩:=ok.go hdn;have hst:=ok.st hdn;have hl3:x.left<=30:=mJ;obtain⟨lf,hlf⟩:∃lf,Hid (lf=if e.kind=1 then x.left-1 else x.left):=gG;have HT:=Y (XL hdn hl1 (fun h=>(hdo h).1) L e lf hlf.out);rw[hR.out]at HT;have aoF:0<=lf/\lf<=x.left:=by rw[hlf.out];split<;>omega
 have ans:=aoF.2;have a17:=(F.G HX hgl).K 17 m17;have f17:=(F.G HX hgl).frozen 17;have d0:=aeq.K 0 E0;have H1:=Y (H.G HX);have FX:Hid (Fr (fun i=>i=g) w w1):=Y (Fr.G HX);have HOK:=Y ok;have HH:=Y H;have HDL:=Y hdl;have HDO:=Y hdo;have aj9:Hid (∀(d:Dl) (k:Nat) (lg:Nat) (lf:Int),({x with left:=lf,d:=d}:Xc).st):=Y (fun d k lg lf=>⟨hst.ips,hst.to1,hst.to2,hst.trl,hst.err⟩);have HE:=Y aeq;have agb:x.y.sv.ip.length=16:=mE;have hw0:w0.heap.size<=w.heap.size:=H.bw.size;have HB:=Y F;clear hR ok H hgo hM m17 m44 E0 HX aeq hdl hdo hst hl2 akP F;obtain⟨es,hes⟩:=ao (xA e);rw[hes.out]at hw1 HE hel⊢;go_enter func37,ntmps37;go_upto_region 1 with fail;rw[hw1.out];go_upto_if 14 with fail;go_cut[] (fun wx=>BS w0 wx g gl A c As cd {x with left:=lf} L qs D/\Z wx w.heap.size 42 es/\Fr (fun i=>i=g) w wx)
 case first=>
  by_cases hk1:e.kind=1
  case pos=>
   have aoJ:(e.kind==1)=true:=kV;obtain rfl:lf=x.left-1:=by rw[hlf.out,if_pos hk1]
   have hw:BS w0 (w1.setCell ⟨g,17,none⟩ (.int .i64 (x.left-1))) g gl A c As cd {x with left:=x.left-1} L qs D:=H1.out.aeG 4 I (.int .i64 (x.left-1)) (fun h2 hM=>hM.set 17 _) (uL w1 g 17 (.int .i64 (x.left-1))) J J J J J J (fun vt=>rfl) J;have hwe:Z (w1.setCell ⟨g,17,none⟩ (.int .i64 (x.left-1))) w.heap.size 42 es:=HE.out.grown (uL w1 g 17 (.int .i64 (x.left-1))) fl;have hwf:Fr (fun i=>i=g) w (w1.setCell ⟨g,17,none⟩ (.int .i64 (x.left-1))):=by obtain⟨M1,hM1⟩:=H1.out.uG;exact FX.out.trans (Fr.grown (S:=fun i=>i=g) (uL w1 g 17 (.int .i64 (x.left-1))) hM1 (.inr (.inr (.inr (.inr (.inr (.inl J)))))) J) (fun _ _ h=>h)
   have HW:=Y (And.intro hw (And.intro hwe hwf));clear hw hwe hwf H1 HE FX HT HDL aj9;go_wp2_with fail;go_meet
   case rel=>exact HW.out
  case neg=>
   have aoJ:(e.kind==1)=false:=kV;obtain rfl:lf=x.left:=by rw[hlf.out,if_neg hk1]
   go_wp2_with fail;go_meet
   case rel=>exact⟨H1.out,HE.out,FX.out⟩
 obtain⟨H2,E2,F2⟩:=hcut;obtain⟨w2,rfl⟩:∃w2,w2=wc:=gp;have aw8:gl<w.heap.size:=HH.out.l.lt;have DL:Hid (x.lg=2->∃gd,D=some gd/\w0.heap.size<=gd/\vA w2 gd x.d A c/\gd≠g/\gd≠gl/\RS w0 w g gl gd/\gd<w.heap.size):=Y (fun h=>by
  obtain⟨gd,e1,e2,e3⟩:=HDL.out h;obtain⟨M3,hM3⟩:=e3.MJ;have n1:=wJ hM3 HB.out ax;exact⟨gd,e1,e2,e3.fr F2 n1,n1,wJ hM3 HH.out.l ax,.inr (.inr ⟨e2,M3,hM3⟩),hM3.lt⟩)
 have F2R:Fr (RS w0 w g gl) w w2:=F2.mono (fun _ h=>.inl h);have hw2:w.heap.size<=w2.heap.size:=F2.size;obtain⟨M2,vt2,ds2,hb2,hM2,-,-,-,-,-,-,-,m16,m17,-,m19,m42,-,-,-,-,-,-⟩:=H2.cells;have a16:w2.cell? ⟨g,16,none⟩=some (.int .i64 x.lg):=hb2.K 16 m16;have a17:w2.cell? ⟨g,17,none⟩=some (.int .i64 lf):=hb2.K 17 m17;have a42:w2.cell? ⟨g,42,none⟩=some (Gg D):=hb2.K 42 m42;clear m16 m17 HDL HB H1 HE FX a44 f17 hl1 hl3 hlf;by_cases hl0:lf=0
 case pos=>
  rw[if_pos hl0]at HT;have ar3:(lf==0)=true:=by simpa using hl0
  clear d0 m19;go_upto_if 32 with fail;go_cut[5] (fun v5 wx=>∃o1 d1,Hid (R=Eh o1 (vZ {x with left:=lf,d:=d1} L))/\vI w.heap.size wx v5 o1/\o1.length<=1/\BS w0 wx g gl A c As cd {x with left:=lf,d:=d1} L qs D/\Fr (RS w0 w g gl) w wx)
  case first=>
   by_cases hlg:x.lg=2
   case pos=>
    have amr:((x.lg:Int)==2)=true:=by rw[hlg];rfl
    obtain⟨gd,hD,amu,hDA,amt,aoP,hRS,-⟩:=DL.out hlg;rw[hD]at a42;unfold Gg at a42;have HG:=Y (XG gd x.d A c w2 hDA);have hng:=IV x.d;obtain⟨M3,hM3⟩:=hDA.MJ;rw[if_pos hlg]at HT;clear hlg hDA m42;go_wp2_with fail;refine HG.out.mono ?_;rintro _ w3 ⟨v1,rfl,hO1,hD3,g3⟩;have F3:=Fr.grown (S:=fun i=>i=gd) g3 hM3 (.inr (.inr (.inr (.inr (.inl J))))) J;have O0:vI w.heap.size w3 (.slice none 0 0) []:=vI.nil _ _;have H3:=H2.fr F3 amt.symm aoP.symm (fun i hi=>by rw[hi];exact amu);have hw3:w2.heap.size<=w3.heap.size:=F3.size;have FF3:=F2R.trans F3 (fun i _ h=>by rw[h];exact hRS);clear HG hD3 g3 F3 a42 a16 a17 H2 F2 F2R;go_wp2_with(at_builtin;go_must(refine yt _ J (.tmp 33) (.tmp 38) J J J O0 hO1 I fM ?_));intro v' w' hO' f';have f0:Fr (fun _=>False) w3 w':=f'.mono (fun i h=>by cases h);have H4:=(H3.fr f0 (fun h=>h) (fun h=>h) (fun _ h=>h.elim)).d (xB x.d).1;have FF4:=FF3.trans f0 (fun _ _ h=>h.elim);have HW:=Y (And.intro hO' (And.intro H4 FF4));clear hO' f' f0 H4 FF4 H3 FF3 O0 hO1;go_wp2_with fail;go_meet
    case rel=>exact⟨(xB x.d).2,(xB x.d).1,HT,HW.out.1,hng,HW.out.2.1,HW.out.2.2⟩
   case neg=>
    have amr:((x.lg:Int)==2)=false:=az;rw[if_neg hlg]at HT;clear hlg;go_wp2_with fail;go_meet
    case rel=>exact⟨[],x.d,HT,vI.nil _ _,Nat.zero_le _,H2.d x.d,F2R⟩
  obtain⟨o1,d1,HR2,O5,ho1,H5,F5⟩:=hcut;obtain⟨w5,rfl⟩:∃w5,w5=wc:=gp;have NX:=Y (FM w0 g gl A c As cd {x with left:=lf,d:=d1} L qs D w5 H5 (aj9.out d1 0 0 lf) hdn hmz O hu hsn);have nxl:(vZ {x with left:=lf,d:=d1} L).2.2.length<=1:=AM _ _;have hw5:=F5.size;clear HT DL H2 F2 F2R a16 a17 a42 H5 hb2 m42 aj9 hl0 ar3;generalize vZ {x with left:=lf,d:=d1} L=r at*;go_wp2_with fail;refine NX.out.mono ?_;rintro _ w9 ⟨v2,D',rfl,hO9,hA9,hF9⟩;have O9:=O5.fr hF9 (fun b F h=>by rcases h with h|h<;>omega);have F9:=F5.trans hF9 (fun i hi h=>h.elim .inl (fun h=>.inr (.inl h)));have arx:w5.heap.size<=w9.heap.size:=hF9.size;clear NX O5 F5 hF9;go_wp2_with(at_builtin;go_must(refine yt _ J (.tmp 40) (.tmp 42) J J J O9 hO9 I I ?_));exact pJ
 rw[if_neg hl0]at HT;have ar3:(lf==0)=false:=by simpa using hl0
 have hl1:1<=lf:=I;by_cases hlg:x.lg=2
 case neg=>
  rw[if_neg hlg]at HT;have amr:((x.lg:Int) !=2)=true:=az;have LQ:∀V,al w2 V->(Instr.loadAt 30 (.pointer (some ⟨g,19,none⟩))).run prog V= .ok (.agg qs.toArray) V:=fun V hV=>(hb2.G hV hb2.lt).wk 30 19 23 I _ underlying30 J DX _ m19
  have LE:∀V,al w2 V->(Instr.loadAt 42 (.pointer (some ⟨w.heap.size,0,none⟩))).run prog V= .ok (.agg es.toArray) V:=fun V hV=>(E2.G hV E2.lt).wk 42 0 22 I _ underlying42 J ER _ (wg I)
  have HLQ:=Y LQ;have HLE:=Y LE;have PK:=Y (fun V (hV:al w2 V)=>JF qs x.y A c e V (Ib.G ⟨by rw[hqs,hyq],agb,by rw[hyq];exact H2.nm.G H2.bw⟩ hV) ty (by rw[hyq];have:uQ x.q.name<=400:=H2.nl;omega));rw[hes.out]at PK;obtain⟨pp,hpp⟩:=ao (A8 x.y e);rw[hpp.out]at PK HT;have HM2:=Y hmz;have HQS:=Y hqs;have HH2:=Y H2;have HF2:=Y F2R;clear hyq agb LQ LE d0 E2 hb2 hM2 m19 m42 a42 hqs H2 F2 F2R hpp ty hs hoc hel aoF;go_upto_region 12 with fail;go_cut[6,7] (fun v6 v7 wx=>∃gm ds,v6= .pointer (some ⟨gm,0,none⟩)/\v7= .bool pp.2/\Z wx gm 50 ds/\uA wx ds pp.1/\al w2 wx)
  case first=>
   clear a16 a17;refine wp_region_held_drew (S:=fun V=>al w2 V) (by kernel_rfl) (Below.refl _ _).drew (fun M=>?_);refine uh M 5 [0,1,2,3,4] J (by kernel_rfl) (fun _ _ _ _ _ h=>h) J J ?_;repeat(refine aj _ ?_;simp only[z])
   (refine ah _ J J (fun V hV=>(ul 30 (.tmp 52) ⟨g,19,none⟩ J J (HLQ.out V hV))) ?_;simp only[z])
   (refine ah _ J J (fun V hV=>(ul 42 (.tmp 3) ⟨w.heap.size,0,none⟩ J J (HLE.out V hV))) ?_;simp only[z])
   simp only[vx];refine xu 5 9 (by kernel_rfl) ?_ ?_
   ·
    refine vO 5 (some 55) 35 #[.agg qs.toArray,.agg es.toArray] J J (by kernel_rfl) bm (PK.out _ M) ?_;rintro _ w3 ⟨ds,rfl,hM,b3⟩;have hdl:=hM.len;have hd1:=Y hM.one;have hS3:=tL M M.size b3;refine⟨_,J,hS3,?_⟩;clear M b3;have M:=hS3;clear hS3;simp only[z];refine uh M 3 [6,7,8] J (by kernel_rfl) (fun _ _ _ _ _ h=>h) J J ?_
    (refine aj (.tuple #[.agg ds.toArray,.bool pp.2]) ?_;simp only[z])
    (refine aj (.agg ds.toArray) ?_;simp only[z])
    (refine aj (.bool pp.2) ?_;simp only[z])
    simp only[vx];have kn:Below w3.heap.size w3 (w3.alloc (.cells uw.toArray 50)):=gj;have hS4:=tL M M.size kn;have hM4:=hM.G kn;have Bz:=Z.new w3 50 uw;have hz:w2.heap.size<=w3.heap.size:=lm;refine zF 9 (some 6) (by kernel_rfl) J J (by kernel_rfl) (v:=.pointer (some ⟨w3.heap.size,0,none⟩)) (w':=w3.alloc (.cells uw.toArray 50)) (by kernel_rfl) hS4 ?_;simp only[z];clear M hM kn;have M:=hS4;clear hS4;generalize w3.alloc (.cells uw.toArray 50)=wz at*;generalize w3.heap.size=gz at*;refine vz 10 none 50 (.tmp 6) (.tmp 56) (by kernel_rfl) J J J (by kernel_rfl) gz 0 J ds J Bz dK dJ hd1.out ?_;intro w8 B8 g8 zs;clear zs;replace B8:Z w8 gz 50 ds:=lk;have hM8:=hM4.uG g8 Bz;have hS8:al w2 w8:=iI;refine⟨hS8,?_⟩;clear M;have M:=hS8;simp only[z];refine uh M 1 [11] J (by kernel_rfl) (fun _ _ _ _ _ h=>h) J J ?_
    (refine aj (.bool pp.2) ?_;simp only[z])
    simp only[vx];refine wpAnyH_done (by kernel_rfl) ?_ _;exact pB
   ·
    have kn:Below w2.drew.heap.size w2.drew (w2.drew.alloc (.cells uw.toArray 50)):=gj;have hS4:=tL M M.size kn;have Bn:=Z.new w2.drew 50 uw;have hz:w2.heap.size<=w2.drew.heap.size:=lm;refine uM 9 (some 6) (v:=.pointer (some ⟨w2.drew.heap.size,0,none⟩)) (w':=w2.drew.alloc (.cells uw.toArray 50)) J J (by kernel_rfl) (by kernel_rfl) ?_;refine⟨hS4,?_⟩;clear M kn;have M:=hS4;clear hS4;simp only[z];generalize w2.drew.alloc (.cells uw.toArray 50)=wy at*;generalize w2.drew.heap.size=gz at*;refine uO 5 (some 55) 35 #[.agg qs.toArray,.agg es.toArray] (by kernel_rfl) J J (by kernel_rfl) bm (PK.out _ M) ?_;rintro _ w3 ⟨ds,rfl,hM4,b3⟩;have hdl:=hM4.len;have hd1:=Y hM4.one;have hS3:=tL M M.size b3;have Bz:=Bn.G b3 Bn.lt;refine⟨_,J,hS3,?_⟩;clear M b3 Bn;have M:=hS3;clear hS3;simp only[z];refine uh M 3 [6,7,8] J (by kernel_rfl) (fun _ _ _ _ _ h=>h) J J ?_
    (refine aj (.tuple #[.agg ds.toArray,.bool pp.2]) ?_;simp only[z])
    (refine aj (.agg ds.toArray) ?_;simp only[z])
    (refine aj (.bool pp.2) ?_;simp only[z])
    simp only[vx];refine vz 10 none 50 (.tmp 6) (.tmp 56) (by kernel_rfl) J J J (by kernel_rfl) gz 0 J ds J Bz dK dJ hd1.out ?_;intro w8 B8 g8 zs;clear zs;replace B8:Z w8 gz 50 ds:=lk;have hM8:=hM4.uG g8 Bz;have hS8:al w2 w8:=iI;refine⟨hS8,?_⟩;clear M;have M:=hS8;simp only[z];refine uh M 1 [11] J (by kernel_rfl) (fun _ _ _ _ _ h=>h) J J ?_
    (refine aj (.bool pp.2) ?_;simp only[z])
    simp only[vx];refine wpAnyH_done (by kernel_rfl) ?_ _;exact pB
  obtain⟨gm,ds,rfl,rfl,BM,hM5,H5⟩:=hcut;obtain⟨w5,rfl⟩:∃w5,w5=wc:=gp;have hdl:=hM5.len;have hH5:=HH2.out.G H5;have F5:=HF2.out.trans (Fr.G (S:=fun _=>False) H5) (fun _ _ h=>h.elim);have hw5:w2.heap.size<=w5.heap.size:=H5.size;have TD:=Y (Oy w0 g gl A c As cd {x with left:=lf} L qs D ds pp.1 w5 hH5 (aj9.out x.d 0 0 lf) hdn HM2.out O hu hsn hnl hM5);have FIN:Hid (Je w0 g gl A c As cd ({x with left:=lf},L,[]) w (.returned (.slice none 0 0)) w5):=Y ⟨_,D,J,vI.nil _ _,zU.wait HOK.out hdn hl1 ans (d:=x.d) hH5 HM2.out HQS.out (fun h=>absurd h hlg),F5⟩;have HF5:=Y F5;clear hM5 hH5 F5 PK HLQ HLE HH2 HF2 DL HOK H5 HDO;cases hp2:pp.2 with
  |false=>rw[hp2]at HT;clear TD BM;exact rD
  |true=>
   rw[hp2]at HT;have HT2:Hid (R=yC {x with left:=lf} L pp.1):=Y (by rw[HT.out];rfl);clear FIN HT;go_wp2_with(refine tO (.load 50 (.tmp 6)) J ?_;go_must(refine tP J _ _ J gm 0 J BM 14 I _ underlying50 J ux ds (wg I) ?_));refine TD.out.mono ?_;rintro _ w9 ⟨v,D',rfl,hO9,hA9,hF9⟩;have FF:Hid (Je w0 g gl A c As cd R w (.returned v) w9):=Y (by
    rw[HT2.out];exact⟨v,D',J,hO9.mono (Nat.le_trans hw2 hw5),hA9,HF5.out.trans hF9 (fun i hi h=>h.elim .inl (fun h=>.inr (.inl h)))⟩)
   clear TD hO9 hA9 hF9;go_wp2_with fail;go_ret;exact FF.out
 rw[if_pos hlg]at HT;have amr:((x.lg:Int) !=2)=false:=by rw[hlg];rfl
 obtain⟨gd,hD,amu,hDA,amt,aoP,hRS,aFt⟩:=DL.out hlg;rw[hD]at a42 m42;unfold Gg at a42 m42;obtain⟨hds,hdy,hdk⟩:=HDO.out hlg;obtain⟨M3,hM3⟩:=hDA.MJ;have HNM:Hid (xj w2 A c x.d.y.q.name/\uQ x.d.y.q.name<=1000):=Y (by rw[hdy,hyq];exact⟨H2.nm.G H2.bw,by have:uQ x.q.name<=400:=H2.nl;omega⟩);have hnA:0<x.d.y.q.name.length->∀a,A=some a->a.block≠gd:=fun hp a ha=>by
  rw[hdy,hyq]at hp;obtain⟨b,off,e1,e2,_⟩:=H2.nm.1 hp;rw[e1]at ha;injection ha with ha;subst ha;show b≠gd;omega
 have kd:Below w2.heap.size w2 w2.drew:=iH;have HC:=Y (XH gd x.d e A c w2.drew (hDA.G kd) (HNM.out.1.G kd) hnA HNM.out.2 (hoc hlg) ty hs);rw[hes.out]at HC;have nd:=IU x.d e;have DY:=Y (And.intro ((VB x.d e).trans hdy) (RJ x.d e hdk));have DS:=Y (Sy x.d e);obtain⟨rd,hrd⟩:=ao (uW x.d e);rw[hrd.out]at HC HT nd DY DS;have B42:Z w2.drew g 90 M2:=hb2.drew;have hS0:(Instr.loadAt 58 (.pointer (some ⟨g,42,none⟩))).run prog w2.drew= .ok (.pointer (some ⟨gd,0,none⟩)) w2.drew/\Z w2.drew w.heap.size 42 es:=⟨tV underlying58 J (B42.K 42 m42),E2.drew⟩;have HLE:Hid (∀V,Z V w.heap.size 42 es->(Instr.loadAt 42 (.pointer (some ⟨w.heap.size,0,none⟩))).run prog V= .ok (.agg es.toArray) V):=ke;have HM2:=Y hmz;have HQS:=Y hqs;have HH2:=Y H2;have HF2:=Y F2R;have asO:Z w2.drew gd 163 M3:=hM3.drew;clear hyq agb d0 E2 hb2 hM2 m19 a42 hqs H2 F2 F2R ty hs hoc hel aoF DL HNM hnA hDA hds hdy hdk kd hM3;go_wp2_with fail;clear a16 a17;refine wp_region_held_drew (S:=fun V=>(Instr.loadAt 58 (.pointer (some ⟨g,42,none⟩))).run prog V= .ok (.pointer (some ⟨gd,0,none⟩)) V/\Z V w.heap.size 42 es) (by kernel_rfl) hS0 (fun M=>?_);refine uh M 6 [0,1,2,3,4,5] J (by kernel_rfl) (fun _ _ _ _ _ h=>h) J J ?_;repeat(refine aj _ ?_;simp only[z])
 (refine ah _ J J (fun V hV=>(ul 58 (.tmp 65) ⟨g,42,none⟩ J J hV.1)) ?_;simp only[z])
 (refine ah _ J J (fun V hV=>(ul 42 (.tmp 3) ⟨w.heap.size,0,none⟩ J J (HLE.out V hV.2))) ?_;simp only[z])
 simp only[vx];refine uO 6 (some 68) 27 #[.pointer (some ⟨gd,0,none⟩),.agg es.toArray] (by kernel_rfl) J J (by kernel_rfl) bm HC.out ?_;rintro _ w3 ⟨v1,rfl,hO1,hD3,g3⟩;have F3:=Fr.grown (S:=fun i=>i=gd) g3 asO (.inr (.inr (.inr (.inr (.inl J))))) J;have B3:=B42.grown g3 (by intro e;injection e with e;exact amt e.symm);have BE3:=M.2.grown g3 fl;have O0:vI w.heap.size w3 (.slice none 0 0) []:=vI.nil _ _;have hw3:w2.heap.size<=w3.heap.size:=F3.size;have H3:=(HH2.out.G (Below.refl _ _).drew).fr F3 amt.symm aoP.symm (fun i hi=>by rw[hi];exact amu);have FF3:=(HF2.out.trans (Fr.G (S:=fun _=>False) (Below.refl w2.heap.size w2).drew) (fun _ _ h=>h.elim)).trans F3 (fun i _ h=>by rw[h];exact hRS);obtain⟨v',w4,hr,hO4,f4⟩:=XM w3 34 O0 hO1 I fM;have f0:Fr (fun _=>False) w3 w4:=f4.mono (fun i h=>by cases h);have B4:=f0.uG B3 (fun h=>h);have BE4:=f0.uG BE3 (fun h=>h);have hS3:(Instr.loadAt 58 (.pointer (some ⟨g,42,none⟩))).run prog w3= .ok (.pointer (some ⟨gd,0,none⟩)) w3/\Z w3 w.heap.size 42 es:=⟨tV underlying58 J (B3.K 42 m42),BE3⟩;have hS4:(Instr.loadAt 58 (.pointer (some ⟨g,42,none⟩))).run prog w4= .ok (.pointer (some ⟨gd,0,none⟩)) w4/\Z w4 w.heap.size 42 es:=⟨tV underlying58 J (B4.K 42 m42),BE4⟩;refine⟨_,J,hS3,?_⟩;simp only[z];refine zF 7 (some 69) (by kernel_rfl) J J (by kernel_rfl) (v:=v') (w':=w4) (EO (.tmp 62) (.tmp 68) J J J J hr) hS4 ?_;simp only[z];clear M;have M:=hS4;refine uh M 1 [8] J (by kernel_rfl) (fun _ _ _ _ _ h=>h) J J ?_
 (refine aj v' ?_;simp only[z])
 simp only[vx];refine wpAnyH_done (by kernel_rfl) ?_ _;have H4:=H3.fr f0 (fun h=>h) (fun h=>h) (fun _ h=>h.elim);have FF4:=FF3.trans f0 (fun _ _ h=>h.elim);have D4:=hD3.fr f0 (fun h=>h);obtain⟨Ld,dsd,hbd,hLd,_,_,_,_,_,_,_,_,c25,hp,hMd,_⟩:=D4.uG;have d25:=hbd.K 25 c25;have d42:=B4.K 42 m42;rw[List.nil_append]at hO4;have HO4:=Y hO4;have HH4:=Y H4;have aka:=Y FF4;have HD4:=Y D4;have hw4:w3.heap.size<=w4.heap.size:=f0.size;have HP:=Y hp;have HMD:=Y hMd;have hX:({x with left:=lf,d:=rd.1}:Xc).st:=aj9.out rd.1 0 0 lf;have HXS:=Y hX;clear M hS0 hS3 hS4 HC hO1 hD3 g3 F3 B3 BE3 O0 H3 FF3 hr hO4 f4 f0 BE4 B42 asO H4 FF4 D4 HH2 HF2 B4 hp hMd hX c25 aj9;by_cases s1:rd.1.st=1
 case pos=>have HR2:Hid (R=Eh rd.2 (yC {x with left:=lf,d:=rd.1} L rd.1.xP)):=Y fo;rw[s1]at d25;have TD:=Y (Oy w0 g gl A c As cd {x with left:=lf,d:=rd.1} L qs (some gd) dsd rd.1.xP w4 fN HXS.out hdn HM2.out O hu hsn hnl HMD.out);have hdl:=HMD.out.len;have nxl:(yC {x with left:=lf,d:=rd.1} L rd.1.xP).2.2.length<=1:=Fw _ _ _;clear HT s1;generalize yC {x with left:=lf,d:=rd.1} L rd.1.xP=r at*;go_wp2_with(refine tO (.load 50 (.tmp 85)) J ?_;go_must(refine tP J _ _ J gd 26 J hbd 14 I _ underlying50 J ux dsd HP.out ?_));refine TD.out.mono ?_;rintro _ w9 ⟨v2,D',rfl,hO9,hA9,hF9⟩;have O9:=HO4.out.fr hF9 (fun b F h=>by rcases h with h|h<;>omega);have F9:=aka.out.trans hF9 (fun i hi h=>h.elim .inl (fun h=>.inr (.inl h)));have arx:w4.heap.size<=w9.heap.size:=hF9.size;clear TD HO4 aka hF9 d25 d42 hbd;go_wp2_with(at_builtin;go_must(refine yt _ J (.tmp 78) (.tmp 87) J J J O9 hO9 I I ?_));exact pJ
 have s1':(rd.1.st==1)=false:=by simpa using s1
 rw[if_neg s1]at HT;by_cases s2:rd.1.st=2
 case pos=>have HR2:Hid (R=Eh rd.2 (vZ {x with left:=lf,d:=rd.1} L)):=Y (by rw[HT.out,if_pos s2]);rw[s2]at d25;have NX:=Y (FM w0 g gl A c As cd {x with left:=lf,d:=rd.1} L qs (some gd) w4 fN HXS.out hdn HM2.out O hu hsn);have nxl:(vZ {x with left:=lf,d:=rd.1} L).2.2.length<=1:=AM _ _;clear HT s1 s2 s1';generalize vZ {x with left:=lf,d:=rd.1} L=r at*;go_wp2_with fail;refine NX.out.mono ?_;rintro _ w9 ⟨v2,D',rfl,hO9,hA9,hF9⟩;have O9:=HO4.out.fr hF9 (fun b F h=>by rcases h with h|h<;>omega);have F9:=aka.out.trans hF9 (fun i hi h=>h.elim .inl (fun h=>.inr (.inl h)));have arx:w4.heap.size<=w9.heap.size:=hF9.size;clear NX HO4 aka hF9 d25 d42 hbd;go_wp2_with(at_builtin;go_must(refine yt _ J (.tmp 97) (.tmp 99) J J J O9 hO9 I I ?_));exact pJ
 have s2':(rd.1.st==2)=false:=by simpa using s2
 have FIN:Hid (Je w0 g gl A c As cd R w (.returned v') w4):=Y (by
  rw[HT.out,if_neg s2];have h0:rd.1.st=0:=by
   rcases DS.out with h|h|h
   ·exact h.trans ((HDO.out hlg).1)
   ·exact absurd h s1
   ·exact absurd h s2
  exact⟨v',D,J,HO4.out,zU.wait HOK.out hdn hl1 ans HH4.out HM2.out HQS.out (fun _=>⟨h0,DY.out.1,DY.out.2,gd,hD,amu,HD4.out⟩),aka.out⟩)
 clear HT HO4 HH4 aka HD4 HOK HMD HP hbd s1 s2;exact qt
theorem acj(v1 v2 v3 vn:Value)(r:Rs)(q:Qn)(A:Option Addr)(n c gl:Nat)(W:World):(Instr.build 90 #[(0,.agg (Ej v1 v2 v3 r).toArray),(1,.agg (qC vn q).toArray),(2,.pointer (some ⟨gl,0,none⟩)),(3,.slice A n c)]).run prog W= .ok (.agg (Dx (Ej v1 v2 v3 r) (qC vn q) [.pointer (some ⟨gl,0,none⟩),.slice A n c,.int .i64 0,.int .i64 0,.int .i64 0,.int .i64 0] Qe [.pointer none,.bool false,.bool false,.int .i64 0] uw).toArray) W:=by kernel_rfl
def UW(w0:World)(gl:Nat)(A:Option Addr)(c:Nat)(As:Option Addr)(cd:Nat)(r:XR)(w:World)(e:Ending)(w':World):Prop:=∃g v D,e= .returned (.tuple #[.pointer (some ⟨g,0,none⟩),v])/\vI w.heap.size w' v r.2.2/\zU w0 w' g gl A c As cd D r.1 r.2.1/\Fr (fun i=>i=gl) w w'/\w.heap.size<=g
theorem XO(w0:World)(cs:List Value)(r:Rs)(q:Qn)(A:Option Addr)(c:Nat)(turn:Int)(gl:Nat)(As:Option Addr)(cd:Nat)(L:Lt)(w:World)(h:CU w cs r)(hN:xj w0 A c q.name)(hn:q.name.length<=100000)(hls:uQ q.name<=400)(hl:Z w gl 86 [.slice As L.ds.length cd,.int .i64 L.us])(hd:Oo w0 As L.ds)(F:al w0 w)(hgl:w0.heap.size<=gl)(hu:L.us<=999999990):
  Calls prog 34 #[.agg cs.toArray,.agg (qC (.slice A q.name.length c) q).toArray,.int .i64 turn,.pointer (some ⟨gl,0,none⟩)] w (UW w0 gl A c As cd (AU (ui r).hS (ui r).vc (ui r).ed q (vj r turn) L) w):=by
 obtain⟨R,hR⟩:=ao (AU (ui r).hS (ui r).vc (ui r).ed q (vj r turn) L);rw[hR.out];have hcl:=h.len;have HX:Below w.heap.size w ((w.alloc (.cells cs.toArray 69)).alloc (.cells (qC (.slice A q.name.length c) q).toArray 28)):=gA;have B0:=(Z.new w 69 cs).alloc (.cells (qC (.slice A q.name.length c) q).toArray 28);have B1:=Z.vP (w.alloc (.cells cs.toArray 69)) 28 (qC (.slice A q.name.length c) q) (w.heap.size+1) ap;obtain⟨w1,hw1⟩:=ao ((w.alloc (.cells cs.toArray 69)).alloc (.cells (qC (.slice A q.name.length c) q).toArray 28));rw[hw1.out]at HX B0 B1;obtain⟨tl,htl⟩:=ao (vj r turn);obtain⟨nt,hnt⟩:=ao tl.length;have RV:=Y (fun V (hV:al w1 V)=>CX cs r V (h.G (tL HX HX.size hV)));have TR:=Y (fun V (hV:al w1 V)=>UR cs r turn V (h.G (tL HX HX.size hV)));rw[htl.out]at TR;have hN1:=Y (fun V (hV:al w1 V)=>hN.G (tL F F.size (tL HX HX.size hV)));have LR:Hid (∀V,al w1 V->(Instr.loadAt 69 (.pointer (some ⟨w.heap.size,0,none⟩))).run prog V= .ok (.agg cs.toArray) V):=Y (fun V hV=>(B0.G hV B0.lt).wk 69 0 10 I _ underlying69 J zX _ (wg I));obtain⟨nl,hnl⟩:=ao q.name.length;have LQ:Hid (∀V,al w1 V->(Instr.loadAt 28 (.pointer (some ⟨w.heap.size+1,0,none⟩))).run prog V= .ok (.agg #[.slice A nl c,.int .i64 q.E,.int .i64 q.N]) V):=Y (fun V hV=>by
  rw[<-hnl.out];exact(B1.G hV B1.lt).wk 28 0 3 (by simp[qC]) _ underlying28 J xh _ J)
 obtain⟨XC,hXC⟩:∃XC:Option Addr->Nat->Nat->Option Addr->Nat->Nat->Option Addr->Nat->Nat->Option Addr->Nat->List Value,Hid (∀A1 n1 c1 A2 n2 c2 A3 n3 c3 At ct,Dx (Ej (.slice A1 n1 c1) (.slice A2 n2 c2) (.slice A3 n3 c3) (ui r)) (qC (.slice A q.name.length c) q) [.pointer (some ⟨gl,0,none⟩),.slice At nt ct,.int .i64 0,.int .i64 0,.int .i64 0,.int .i64 0] Qe [.pointer none,.bool false,.bool false,.int .i64 0] uw=XC A1 n1 c1 A2 n2 c2 A3 n3 c3 At ct):=⟨_,Y (fun _ _ _ _ _ _ _ _ _ _ _=>rfl)⟩;have aoq:Hid (qC (.slice A q.name.length c) q=[.slice A nl c,.int .i64 q.E,.int .i64 q.N]):=Y (by rw[<-hnl.out];rfl);have HB:=Y F;have HL:=Y hl;have HD:=Y hd;have HNN:=Y hN;rw[aoq.out]at B1;have HB1:=Y B1;clear h hl hd hN F B0 B1;rw[aoq.out]at hw1⊢;go_enter func34,ntmps34;go_wp2_with fail;rw[hw1.out];go_upto_region 2 with fail;go_cut[10] (fun v10 wx=>∃gx A1 n1 c1 A2 n2 c2 A3 n3 c3 At ct,v10= .pointer (some ⟨gx,0,none⟩)/\Z wx gx 90 (XC A1 n1 c1 A2 n2 c2 A3 n3 c3 At ct)/\y8 wx 0 (.slice At nt ct) tl/\al w1 wx/\w1.heap.size<=gx)
 case first=>
  refine wp_region_held_drew (S:=fun V=>al w1 V) (by kernel_rfl) (Below.refl _ _).drew (fun M=>?_);refine uh M 5 [0,2,3,4,5] J (by kernel_rfl) (fun _ _ _ _ _ h=>h) J J ?_
  (refine ah _ J J (fun V hV=>(ul 69 (.tmp 4) ⟨w.heap.size,0,none⟩ J J (LR.out V hV))) ?_;simp only[z])
  (refine ah _ J J (fun V hV=>(ul 28 (.tmp 5) ⟨w.heap.size+1,0,none⟩ J J (LQ.out V hV))) ?_;simp only[z])
  (refine aj (.pointer (some ⟨gl,0,none⟩)) ?_;simp only[z])
  (refine ah _ J J (fun V hV=>(ul 69 (.tmp 4) ⟨w.heap.size,0,none⟩ J J (LR.out V hV))) ?_;simp only[z])
  (refine aj (.int .i64 turn) ?_;simp only[z])
  simp only[vx];refine um 1 (by kernel_rfl) ?_;refine vO 1 (some 14) 91 #[.agg cs.toArray] J J (by kernel_rfl) bm (RV.out _ M) ?_;rintro _ w3 ⟨A1,c1,A2,n2,c2,A3,n3,c3,rfl,_,b3⟩;have hS3:=tL M M.size b3;refine⟨_,J,hS3,?_⟩;clear M;have M:=hS3;clear hS3;simp only[z];obtain⟨n1,hn1⟩:=ao ((ui r).sv.length);rw[hn1.out];refine um 6 (by kernel_rfl) ?_;refine vO 6 (some 19) 41 #[.agg cs.toArray,.int .i64 turn] J J (by kernel_rfl) bm (TR.out _ M) ?_;rintro _ w4 ⟨vt,rfl,TO,b4⟩;obtain⟨At,ct,hvt⟩:=TO.form;rw[hnt.out]at hvt;subst hvt;have hS4:=tL M M.size b4;refine⟨_,J,hS4,?_⟩;clear M;have M:=hS4;clear hS4;simp only[z];clear b3 b4;generalize w4=WA at*;have RB:=Y (fun V=>acj (.slice A1 n1 c1) (.slice A2 n2 c2) (.slice A3 n3 c3) (.slice A q.name.length c) (ui r) q At nt ct gl V);rw[hXC.out A1 n1 c1 A2 n2 c2 A3 n3 c3 At ct,aoq.out]at RB;refine uh M 1 [7] J (by kernel_rfl) (fun _ _ _ _ _ h=>h) J J ?_
  (refine ah (.agg (XC A1 n1 c1 A2 n2 c2 A3 n3 c3 At ct).toArray) J J (fun V hV=>(z6 90 _ J #[(0,.agg (Ej (.slice A1 n1 c1) (.slice A2 n2 c2) (.slice A3 n3 c3) (ui r)).toArray),(1,.agg #[.slice A nl c,.int .i64 q.E,.int .i64 q.N]),(2,.pointer (some ⟨gl,0,none⟩)),(3,.slice At nt ct)] (by kernel_rfl) (RB.out V))) ?_;simp only[z])
  simp only[vx];have kn:Below WA.heap.size WA (WA.alloc (.cells (XC A1 n1 c1 A2 n2 c2 A3 n3 c3 At ct).toArray 90)):=gj;have hSx:=tL M M.size kn;have Bn:=Z.new WA 90 (XC A1 n1 c1 A2 n2 c2 A3 n3 c3 At ct);have hgz:w1.heap.size<=WA.heap.size:=lm;have TO2:=uy.G TO kn (fun _ _ h=>h);refine zF 8 (some 21) (by kernel_rfl) J J (by kernel_rfl) (v:=.pointer (some ⟨WA.heap.size,0,none⟩)) (w':=WA.alloc (.cells (XC A1 n1 c1 A2 n2 c2 A3 n3 c3 At ct).toArray 90)) (by kernel_rfl) hSx ?_;simp only[z];clear M kn TO;have M:=hSx;clear hSx;generalize WA.alloc (.cells (XC A1 n1 c1 A2 n2 c2 A3 n3 c3 At ct).toArray 90)=wz at*;generalize WA.heap.size=gz at*;refine uh M 1 [9] J (by kernel_rfl) (fun _ _ _ _ _ h=>h) J J ?_
  (refine aj (.pointer (some ⟨gz,0,none⟩)) ?_;simp only[z])
  simp only[vx];refine wpAnyH_done (by kernel_rfl) ?_ _;go_wp2_with fail;go_meet
  case rel=>exact⟨gz,A1,n1,c1,A2,n2,c2,A3,n3,c3,At,ct,J,Bn,TO2,M,hgz⟩
 obtain⟨g,A1,n1,c1,A2,n2,c2,A3,n3,c3,At,ct,rfl,BX,TO,H2,hgx⟩:=hcut;obtain⟨w2,rfl⟩:∃w2,w2=wc:=gp;have HW:=tL HX HX.size H2;rw[<-hXC.out]at BX;obtain⟨x0,hx0⟩:∃x0,x0=Cq (ui r).hS (ui r).vc (ui r).ed q tl:=gp;have HRR:Hid (R=if(vg (vw q 0 (ui r).ed) false).2≠0 then({x0 with done:=true,vd:=3},L,[])else Cp x0 L):=Y fx;have HXS:BS w0 w2 g gl A c As cd x0 L Qe none:=by rw[hx0];refine⟨⟨_,.slice At nt ct,uw,BX,J,J,J,J,TO,uA.zero _⟩,HL.out.G HW HL.out.lt,HNN.out,hls,HD.out,tL HB.out HB.out.size HW,?_,hgl,.inl J⟩;have:=HB.out.size;have:=HX.size;omega
 have HST:Hid ((vg (vw q 0 (ui r).ed) false).2=0->x0.st):=Y (fun he=>by
  have ht:=EM r turn;rw[htl.out]at ht;rw[hx0];exact⟨TO.ip,(PF r).1,(PF r).2,gi,fun id e U X=>PU he id e U X⟩)
 have hk0:x0.k<x0.tr.length:=by have ht:=EM r turn;rw[htl.out]at ht;rw[hx0];show 0<tl.length;omega
 have hdn:x0.done=false:=nJ;have hmz:x0.xP=vo.zero:=nJ;have hsn:x0.uz<=1000000:=nw;have BU:=Y (fun V (hV:al w1 V)=>Bj A c q 0 false V (hN1.out V hV));have HE:Hid ((vg (vw q 0 false) false).2=0↔(vg (vw q 0 (ui r).ed) false).2=0):=Y ⟨fun h=>PU h 0 _ ax ax,fun h=>PU h 0 _ ax ax⟩;rw[hnl.out]at BU;generalize(vg (vw q 0 false) false).1=oc at*;generalize(vg (vw q 0 false) false).2=er at*;generalize(vg (vw q 0 (ui r).ed) false).2=er2 at*;have BQ:=HB1.out.G H2 HB1.out.lt;have BU2:=Y (BU.out w2 H2);have hgw:w.heap.size<=g:=Nat.le_trans HX.size hgx;have atp:=Y HXS;have TOR:Hid (∀V e w',al w2 V->Cr w0 g gl A c As cd R V e w'->∃v,e= .returned v/\UW w0 gl A c As cd R w (.returned (.tuple #[.pointer (some ⟨g,0,none⟩),v])) w'):=Y (fun V e w' hV hx=>by
  have hWV:=tL HW HW.size hV;obtain⟨v,D',rfl,U,X,h3⟩:=hx;refine⟨v,J,g,v,D',J,U.mono hWV.size,X,(Fr.G (S:=fun i=>i=gl) hWV).trans h3 (fun i hi h=>?_),hgw⟩;rcases h with h|h
  ·omega
  ·
   exact h)
 clear hx0 TO BX HXS LQ BU RV TR LR hN1 hXC hR htl;go_wp2_with(refine tO (.load 28 (.tmp 5)) J ?_;go_must(refine tP J _ _ J (w.heap.size+1) 0 J BQ 3 ap _ underlying28 J xh [.slice A nl c,.int .i64 q.E,.int .i64 q.N] J ?_));refine BU2.out.mono ?_;rintro _ w4 ⟨rfl,b4⟩;have H4:=atp.out.G b4;have arz:al w2 w4:=b4;clear BQ BU2 atp;by_cases he:er=0
 case pos=>have he2:er2=0:=HE.out.1 he;have HR2:Hid (R=Cp x0 L):=Y (by rw[HRR.out,if_neg (by rw[he2];decide)]);have TY:=Y (S8 w0 g gl A c As cd x0 L Qe none w4 H4 (HST.out he2) hdn hmz hk0 hu hsn);subst he;clear HE HRR HST H4 he2;go_wp2_with fail;refine TY.out.mono ?_;intro e9 w9 hx;rw[<-HR2.out]at hx;obtain⟨v,rfl,hy⟩:=TOR.out _ _ _ arz hx;have HX9:=Y hy;clear hx hy TY TOR;exact td
 case neg=>
  have he':(er !=0)=true:=iu;have HR2:Hid (R=({x0 with done:=true,vd:=3},L,[])):=Y (by rw[HRR.out,if_pos (fun h=>he (HE.out.2 h))]);obtain⟨M4,vt4,ds4,hb4,hM4,-,-,-,-,-,-,-,-,-,-,-,-,-,m44,m45,-,-,-⟩:=H4.cells;have a44:=hb4.K 44 m44;have a45:=hb4.K 45 m45;have f44:=hb4.frozen 44;have f45:=hb4.frozen 45;have G4:w4.grownBy ((w4.setCell ⟨g,44,none⟩ (.bool true)).setCell ⟨g,45,none⟩ (.int .i64 3)) (some g):=uq (uq (World.grownBy.refl w4 (some g)) 44 (.bool true)) 45 (.int .i64 3);have HF:Hid (UW w0 gl A c As cd R w (.returned (.tuple #[.pointer (some ⟨g,0,none⟩),.slice none 0 0])) ((w4.setCell ⟨g,44,none⟩ (.bool true)).setCell ⟨g,45,none⟩ (.int .i64 3))):=Y (by
   have H5:BS w0 ((w4.setCell ⟨g,44,none⟩ (.bool true)).setCell ⟨g,45,none⟩ (.int .i64 3)) g gl A c As cd {x0 with done:=true,vd:=3} L Qe none:=H4.put G4 J J J J J H4.qk (fun R vt ds hR hd F hM=>⟨ds,by
    have:=(F.set 44 (.bool true)).set 45 (.int .i64 3);rw[FL hR J J H4.ql J 2 I]at this;rw[FL hR J J H4.ql J 3 I]at this;exact this,hM⟩)
   obtain⟨v,hv,hy⟩:=TOR.out w4 (.returned (.slice none 0 0)) _ arz (by
    rw[HR2.out];exact⟨_,none,J,vI.nil _ _,⟨⟨fun h=>dY,fun h=>dY⟩,⟨Qe,H5,fun h=>by cases h⟩⟩,Fr.grown G4 hb4 (.inr (.inr (.inr (.inr (.inr (.inl J)))))) (.inl J)⟩)
   injection hv with hv;subst hv;exact hy)
  clear HE HRR HST H4 hb4 m44 m45 G4 TOR he hM4;go_wp2_with fail;go_ret2;exact HF.out
end Go.Proofs.YthnbcmlnpdabhaaGreat
