/-
  Layers 22 and 23,the reference:Draw,Servers,Tries.
-/
import Derived.Test.YthnbcmlnpdabhaaGreatILz
import Derived.Test.YthnbcmlnpdabhaaGreatKAz
import Derived.Test.YthnbcmlnpdabhaaGreatHYz
namespace Go.Proofs.YthnbcmlnpdabhaaGreat
open _root_.Go.Proofs.Tryz
set_option maxHeartbeats 8000000
open Go.RowKit
set_option maxRecDepth 100000
set_option linter.unusedVariables false
set_option linter.unusedSimpArgs false
variable {A:Option Addr} {c:Nat} {w:World}
def P4(w:World)(g:Nat)(A:Option Addr)(c:Nat)(L:Lt):Prop:=Z w g 86 [.slice A L.ds.length c,.int .i64 L.us]/\Oo w A L.ds/\(0<L.ds.length->∀b,A=some b->b.block≠g)
def aaA(g:Nat)(A:Option Addr)(c:Nat)(r:Int×Lt)(w:World)(e:Ending)(w':World):Prop:=e= .returned (.int .i64 r.1)/\P4 w' g A c r.2/\w.grownBy w' (some g)
theorem Ox(g:Nat)(A:Option Addr)(c:Nat)(L:Lt)(n:Int)(w:World)(h:P4 w g A c L)(hn:0<n)(hn2:n<=100000)(hu:L.us<=1000000000):
  Calls prog 42 #[.pointer (some ⟨g,0,none⟩),.int .i64 n] w (aaA g A c (wZ L n) w):=by
 obtain⟨F,hD,hA⟩:=h;have c0:=F.K 0 J;have c1:=F.K 1 J;have f1:=F.frozen 1;have hn':¬n<1:=I;have hu0:(0:Int)<=L.us:=I;have hwn:IntKind.u64.wrap n=n:=gL;have hn0:¬n=0:=I;have DV:=Y (EE L.get n hn hn2);have FIN:Hid (aaA g A c (wZ L n) w (.returned (.int .i64 (IntKind.u64.wrap L.get%n))) (w.setCell ⟨g,1,none⟩ (.int .i64 ((L.us:Int)+1)))):=Y (by
  have e:(.int .i64 ((L.us:Int)+1))=Value.int .i64 ((L.us+1:Nat):Int):=lX;rw[e];have hg:w.grownBy (w.setCell ⟨g,1,none⟩ (.int .i64 ((L.us+1:Nat):Int))) (some g):=ig;refine⟨J,⟨F.set 1 _,fun hp=>?_,hA⟩,hg⟩;obtain⟨b,off,U,X,h3⟩:=hD hp;refine⟨b,off,U,by simpa[World.setCell]using X,fun j v hv=>?_⟩;rw[<-h3 j v hv];exact yH hg ⟨b,off+j,none⟩ X fE)
 by_cases Hh:L.us<L.ds.length
 case pos=>have e1:L.get=L.ds[L.us]:=mO;rw[e1]at DV FIN;obtain⟨b,off,rfl,hbl,hr⟩:=hD I;have cd:w.cell? ⟨b,off+L.us,none⟩=some (.int .i64 L.ds[L.us]):=hr L.us _ (by simp[Pj,Hh]);have tQ:(L.us:Int)<L.ds.length:=I;clear F hD e1 hr hn hn2 hA;generalize L.ds[L.us]=d at*;go_enter func42,ntmps42;go_wp2_with fail;go_ret;rw[DV.out];exact FIN.out
 case neg=>have e1:L.get=L.us:=mP;rw[e1]at DV FIN;have tQ:¬(L.us:Int)<L.ds.length:=I;have hwu:IntKind.u64.wrap (L.us:Int)=L.us:=gL;have DV2:Hid (wrap64 ((L.us:Int)%n)=(L.us:Int)%n):=Y cR;rw[hwu]at FIN;clear F hD e1 hn hn2 hwu DV hA;go_enter func42,ntmps42;go_wp2_with fail;go_ret;rw[DV2.out];exact FIN.out
theorem ab8(A:Option Addr)(n c:Nat)(v2 v3:Value)(r:Rs)(W:World):(Instr.field 69 (.agg (Ej (.slice A n c) v2 v3 r).toArray) 0).run prog W= .ok (.slice A n c) W:=by kernel_rfl
theorem aaB(v1 v2 v3:Value)(r:Rs)(W:World):(Instr.field 69 (.agg (Ej v1 v2 v3 r).toArray) 5).run prog W= .ok (.int .i64 r.ud) W:=by kernel_rfl
theorem UQ(r:Rs)(turn:Int)(k:Nat)(O:k<(ui r).sv.length):∃U X,(xr r turn)[k]'U=(ui r).sv[(k+yX r turn)% (ui r).sv.length]'X:=by
 have ht:=Ke r turn;refine⟨by rw[AK];exact O,Nat.mod_lt _ I,?_⟩;unfold xr;by_cases h:k<(ui r).sv.length-yX r turn
 ·have e:(k+yX r turn)% (ui r).sv.length=k+yX r turn:=Nat.mod_eq_of_lt I;rw[List.getElem_append_left az,List.getElem_drop];simp only[e,Nat.add_comm]
 ·
  have e:(k+yX r turn)% (ui r).sv.length=k-((ui r).sv.length-yX r turn):=by rw[Nat.mod_eq_sub_mod I,Nat.mod_eq_of_lt I];omega
  rw[List.getElem_append_right az,List.getElem_take];simp only[e,List.length_drop]
theorem P5(cs:List Value)(r:Rs)(turn:Int)(w:World)(h:CU w cs r):Calls prog 95 #[.agg cs.toArray,.int .i64 turn] w (Uu (xr r turn) w):=by
 have hcl:=h.len;have d6:cs[6]?=some (.bool r.ro):=by obtain⟨A1,c1,A2,c2,A3,c3,rfl,_⟩:=h;rfl
 have HX:Below w.heap.size w (w.alloc (.cells cs.toArray 69)):=gj;have aeR:=Z.new w 69 cs;have RV:=Y (CX cs r _ (h.G HX));obtain⟨hn0,hn3⟩:=Fu r;have hat:=Ke r turn;have HT:Hid (yX r turn=if r.ro then(IntKind.u64.wrap turn% (ui r).sv.length).toNat else 0):=nb;have SA:=Y (fun k O=>UQ r turn k O);have hsl:=AK r turn;unfold VI at RV;clear h;obtain⟨hr,hhr⟩:=ao (ui r);rw[hhr.out]at RV hn0 hn3 hat HT SA hsl;generalize yX r turn=ud at*;obtain⟨T,hT⟩:=ao (xr r turn);rw[hT.out]at SA hsl⊢;go_enter func95,ntmps95;go_wp2_with(refine tO (.load 69 (.tmp 2)) J ?_;go_must(refine tP J _ _ J w.heap.size 0 J aeR 10 I _ underlying69 J zX cs (wg I) ?_));refine RV.out.mono ?_;rintro _ w1 ⟨A,c,A2,n2,c2,A3,n3,c3,rfl,hO,b1⟩;have H1:=tL HX HX.size b1;have X1:=aeR.G b1 aeR.lt;have RF:=Y (fun V=>ab8 A hr.sv.length c (.slice A2 n2 c2) (.slice A3 n3 c3) hr V);obtain⟨RL,hRL⟩:∃RL:List Value,RL=Ej (.slice A hr.sv.length c) (.slice A2 n2 c2) (.slice A3 n3 c3) hr:=gp;rw[<-hRL]at RF⊢;have HO:=Y hO;clear RV b1 HX aeR hRL hO;generalize M:hr.sv=S at*;have hwn:IntKind.u64.wrap (S.length:Int)=S.length:=gL;have DV:=Y (EE turn S.length I I);have awO:¬(S.length:Int)=0:=I;go_wp2_with(refine tO (.field 69 (.tmp 11) 0) J ?_;go_must(refine Co J 69 (.tmp 11) 0 J J (RF.out _) ?_));go_loopw[7,8] (fun kv iv wr=>∃k:Nat,k<=S.length/\iv= .int .i64 k/\y8 wr w1.heap.size kv (T.take k)/\al w1 wr) (fun _ iv _=>S.length-(intOf iv).toNat)
 case atStart=>exact⟨0,Nat.zero_le _,J,uy.nil _ _ _ _ _,Below.refl _ _⟩
 obtain⟨k,O,rfl,ho,hB⟩:=hrel;by_cases Hh:k<S.length
 case neg=>have tQ:¬(k:Int)<S.length:=I;go_wp2_with fail;go_ret;refine⟨_,J,?_,tL H1 H1.size hB⟩;rw[List.take_of_length_le I]at ho;exact uy.zero ho
 have tQ:(k:Int)<S.length:=I;obtain⟨Ak,ck,hv⟩:=ho.form;subst hv;have hkl:(T.take k).length=k:=by rw[List.length_take];omega
 have e6:=(X1.G hB X1.lt).K 6 d6;have HOO:=Y ho;clear ho;rw[hkl];go_upto_if 22 with fail;go_cut[9] (fun v wx=>v= .int .i64 (((k+ud)%S.length:Nat):Int)/\wx=wr)
 case first=>
  cases hro:r.ro with
  |true=>
   rw[hro]at HT e6;clear hro;have hs:IntKind.u64.wrap turn% (S.length:Int)=(ud:Int):=by exact qS
   have hs':=Y hs;clear hs;go_wp2_with fail;go_meet
   case rel=>refine⟨?_,J⟩;rw[DV.out,hs'.out];have e1:wrap64 ((k:Int)+(ud:Int))=(k:Int)+ud:=IntWalk.wrap64_in _ ⟨I,I⟩;rw[e1,Int.tmod_eq_emod_of_nonneg I];rfl
  |false=>
   rw[hro]at HT e6;clear hro;go_wp2_with fail;go_meet
   case rel=>have X:=HT.out;simp only[Bool.false_eq_true,if_false]at X;exact⟨by rw[X,Nat.add_zero,Nat.mod_eq_of_lt Hh],J⟩
 obtain⟨rfl,hwc⟩:=hcut;rw[hwc];clear hwc e6;obtain⟨e1,e2,e3⟩:=SA.out k Hh;obtain⟨gs,hA,hgs,aht⟩:=uy.ud (fun _ _ h=>h.len) HO.out I;obtain⟨es,hes,hce,ty⟩:=aht ((k+ud)%S.length) e2;generalize(k+ud)%S.length=j at*;have hes:=tX hes hB hgs;rw[Nat.zero_add]at hes;have hel:es.length=18:=jy;have afx:∀v∈es,v.oneCell'=true:=iY;have HI:Hid (Cl es T[k]):=Y ⟨by rw[e3];exact hce,by rw[e3];exact ty⟩;subst hA;have K3:Below wr.heap.size wr (wr.alloc (.cells es.toArray 24)):=gj;have O3:=uy.G (R':=Cl) HOO.out K3 (fun _ _ h=>h);have N3:=HOO.out.ne (Nat.le_refl _);have hj':(j:Int)<S.length:=I;have hkk:(T.take k).length+1<=200:=I;have HKL:=Y hkl;clear hce ty aht HOO DV HT e3 SA;go_wp2_with(first
  |(refine tO (.load 24 (.tmp 36)) rfl ?_;go_must(refine vM rfl 24 (.tmp 36) rfl gs (j*18) rfl es hes _ underlying24 rfl eC ?_))
  |(refine tO (.buildSlice 65 1 #[(0,.tmp 37)]) rfl ?_;go_must(refine Cj rfl 65 24 _ 18 32 underlying65 yS ax ax (.tmp 37) rfl es rfl hel ?_))
  |(at_builtin;go_must(refine xS _ rfl _ _ 65 rfl 24 _ 18 32 underlying65 yS (by kernel_rfl) ax w1.heap.size _ (T.take k) (by rw[hkl];rfl) O3 aS wr.heap.size es T[k] rfl (Z.new _ _ _) N3 hel afx HI.out aJ I ?_)))
 intro v' w4 O4 g4;have H4:=(tL hB hB.size K3).grown g4 aS (by have:=O3.base;rwa[HKL.out]at this);clear g4 K3 O3 N3;go_wp2_with fail;go_roundw
 case rel=>exact⟨k+1,I,fU,O4,H4⟩
 case measure=>simp[intOf];omega
theorem UR(cs:List Value)(r:Rs)(turn:Int)(w:World)(h:CU w cs r):Calls prog 41 #[.agg cs.toArray,.int .i64 turn] w (Uu (vj r turn) w):=by
 have hcl:=h.len;have HX:Below w.heap.size w (w.alloc (.cells cs.toArray 69)):=gj;have aeR:=Z.new w 69 cs;have RV:=Y (fun V (hV:al w V)=>CX cs r V (h.G hV));have SV:=Y (fun V (hV:al w V)=>P5 cs r turn V (h.G hV));have HT:Hid (vj r turn=wP (xr r turn) (ui r).ud.toNat):=nb;have hsl:=AK r turn;have hs3:=(Fu r).2;obtain⟨ha1,ha2⟩:=Uw r;obtain⟨na,hna⟩:∃na:Nat,(ui r).ud=na:=⟨(ui r).ud.toNat,I⟩;rw[hna]at HT ha1 ha2;rw[Int.toNat_natCast]at HT;rw[<-hsl]at hs3;unfold VI at RV;have HNA:=Y hna;clear h hna hsl;generalize xr r turn=S at*;obtain⟨T,hT⟩:=ao (vj r turn);rw[hT.out]at HT⊢;go_enter func41,ntmps41;go_wp2_with fail;go_loopw[5,6] (fun kv iv wr=>∃k:Nat,k<=na/\iv= .int .i64 k/\y8 wr w.heap.size kv (wP S k)/\al w wr/\Z wr w.heap.size 69 cs) (fun _ iv _=>na-(intOf iv).toNat)
 case atStart=>exact⟨0,Nat.zero_le _,J,uy.nil _ _ _ _ _,HX,aeR⟩
 clear HX aeR;obtain⟨k,O,rfl,ho,hB,aeR⟩:=hrel;obtain⟨Ak,ck,hv⟩:=ho.form;subst hv;have HOO:=Y ho;clear ho;have hb3:k*S.length<=15:=Nat.le_trans (Nat.mul_le_mul (by omega:k<=5) hs3) ax;have hrb:(wP S k).length<=15:=nI;clear hb3;have R1:=Y (RV.out wr hB);go_wp2_with(refine tO (.load 69 (.tmp 2)) J ?_;go_must(refine tP J _ _ J w.heap.size 0 J aeR 10 I _ underlying69 J zX cs (wg I) ?_));refine R1.out.mono ?_;rintro _ w1 ⟨A,c,A2,n2,c2,A3,n3,c3,rfl,_,b1⟩;have X1:=aeR.G b1 aeR.lt;have H1:=tL hB hB.size b1;have O1:=uy.G (R':=Cl) HOO.out b1 (fun _ _ h=>h);have RF:Hid (∀V,(Instr.field 69 (.agg (Ej (.slice A (ui r).sv.length c) (.slice A2 n2 c2) (.slice A3 n3 c3) (ui r)).toArray) 5).run prog V= .ok (.int .i64 na) V):=Y (fun V=>by rw[<-HNA.out];exact aaB ..);obtain⟨RL,hRL⟩:∃RL:List Value,RL=Ej (.slice A (ui r).sv.length c) (.slice A2 n2 c2) (.slice A3 n3 c3) (ui r):=gp;rw[<-hRL]at RF⊢;clear hRL b1 aeR hB R1 HOO;have S1:=Y (SV.out w1 H1);by_cases Hh:k<na
 case neg=>have tQ:¬(k:Int)<na:=I;go_wp2_with(refine tO (.field 69 (.tmp 9) 5) J ?_;go_must(refine Co J 69 (.tmp 9) 5 J J (RF.out _) ?_));go_ret;refine⟨_,J,?_,H1⟩;rw[HT.out,show na=k by omega];exact uy.zero O1
 have tQ:(k:Int)<na:=I;go_wp2_with(first
  |(refine tO (.field 69 (.tmp 9) 5) rfl ?_;go_must(refine Co rfl 69 (.tmp 9) 5 rfl rfl (RF.out _) ?_))
  |(refine tO (.load 69 (.tmp 2)) rfl ?_;go_must(refine tP rfl _ _ rfl w.heap.size 0 rfl X1 10 I _ underlying69 rfl zX cs (wg I) ?_)))
 refine S1.out.mono ?_;rintro _ w2 ⟨vS,rfl,oS,b2⟩;have X2:=X1.G b2 X1.lt;have H2:=tL H1 H1.size b2;have O2:=uy.G (R':=Cl) O1 b2 (fun _ _ h=>h);obtain⟨AS,cS,hv⟩:=oS.form;subst hv;have W1:=y8.own (l:=wP S k) O2;have W2:=y8.own (l:=S) oS;have hi1:=y8.ip (l:=wP S k) O2;have hi2:=y8.ip (l:=S) oS;have HR:Hid (0<S.length->∃b off,AS=some ⟨b,off,none⟩/\w2.rangeAt b off (AR S)):=Y (fun hp=>by
  obtain⟨g,L,hA,F,hL,_⟩:=Dn W2 hp (zR S hi2);refine⟨g,0,hA,fun j v hv=>?_⟩;rw[Nat.zero_add];refine F.K j ?_;rw[<-hL]at hv;rw[List.getElem?_take]at hv;split at hv
  ·exact hv
  ·
   cases hv)
 have OB:=Y O2.base;have HK:=Y (fun w' (hg:w2.grownBy w' (Value.slice Ak (wP S k).length ck).ownBlock)=>O2.Cn X2 ax hg);clear S1 b2 X1 H1 O1 RF oS O2;go_wp2_with(at_builtin;go_must(refine zu w2 J _ _ 65 J 24 _ 18 32 underlying65 yS (by kernel_rfl) ax w.heap.size _ (wP S k).length _ J W1 H2.size AS S.length cS (AR S) J HR.out (zR S hi2) (LO S) aJ I _ J ?_));intro A' c' w3 ho' hg;have X3:=HK.out w3 hg;have H3:=H2.grown hg H2.size OB.out;have O3:y8 w3 w.heap.size (.slice A' ((wP S k).length+S.length) c') (wP S (k+1)):=by have e:wP S (k+1)=wP S k++S:=rfl;rw[e];refine y8.mk ?_ (fun a ha=>(List.mem_append.1 ha).elim (hi1 a) (hi2 a));rw[List.length_append,Ii];exact ho'
 clear HK OB HR ho' hg W1 W2 X2 H2;go_wp2_with fail;go_roundw
 case rel=>exact⟨k+1,I,fU,O3,H3,X3⟩
 case measure=>simp[intOf];omega
def Dx(R Q ms qs es ds:List Value):List Value:=R++(Q++(ms++(qs++(es++ds))))
section
variable {R Q ms qs es ds:List Value}
theorem ab9(hR:R.length=10)(hQ:Q.length=3)(hm:ms.length=6)(hq:qs.length=23)(he:es.length=4)(i:Nat)(hi:i<10):(Dx R Q ms qs es ds)[i]?=R[i]?:=by unfold Dx;rw[List.getElem?_append_left I]
theorem aca(hR:R.length=10)(hQ:Q.length=3)(hm:ms.length=6)(hq:qs.length=23)(he:es.length=4):((Dx R Q ms qs es ds).drop 10).take 3=Q:=by
 unfold Dx;rw[show(10:Nat)=R.length by omega,List.drop_left];exact List.take_left' hQ
theorem Jc(hR:R.length=10)(hQ:Q.length=3)(hm:ms.length=6)(hq:qs.length=23)(he:es.length=4)(i:Nat)(hi:i<6):(Dx R Q ms qs es ds)[13+i]?=ms[i]?:=by
 unfold Dx;rw[List.getElem?_append_right I,List.getElem?_append_right I,List.getElem?_append_left I];congr 1;omega
theorem P6(hR:R.length=10)(hQ:Q.length=3)(hm:ms.length=6)(hq:qs.length=23)(he:es.length=4):(Dx R Q ms qs es ds).drop 19=qs++(es++ds):=by
 unfold Dx;rw[show(19:Nat)=R.length+(Q.length+ms.length)by omega,<-List.drop_drop,List.drop_left,<-List.drop_drop,List.drop_left,List.drop_left]
theorem ae8(hR:R.length=10)(hQ:Q.length=3)(hm:ms.length=6)(hq:qs.length=23)(he:es.length=4):((Dx R Q ms qs es ds).drop 19).take 23=qs:=by rw[P6 hR hQ hm hq he];exact List.take_left' hq
theorem acb(hR:R.length=10)(hQ:Q.length=3)(hm:ms.length=6)(hq:qs.length=23)(he:es.length=4)(i:Nat)(hi:i<4):(Dx R Q ms qs es ds)[42+i]?=es[i]?:=by
 have e:(Dx R Q ms qs es ds)[42+i]?=((Dx R Q ms qs es ds).drop 19)[23+i]?:=by rw[List.getElem?_drop];congr 1;omega
 rw[e,P6 hR hQ hm hq he,List.getElem?_append_right I,List.getElem?_append_left I];congr 1;omega
theorem aeF(hR:R.length=10)(hQ:Q.length=3)(hm:ms.length=6)(hq:qs.length=23)(he:es.length=4):(Dx R Q ms qs es ds).drop 46=ds:=by
 rw[show(46:Nat)=19+27 from J,<-List.drop_drop,P6 hR hQ hm hq he,show(27:Nat)=qs.length+es.length by omega,<-List.drop_drop,List.drop_left,List.drop_left]
theorem Jd(hR:R.length=10)(hQ:Q.length=3)(hm:ms.length=6)(hq:qs.length=23)(he:es.length=4):(Dx R Q ms qs es ds).length=46+ds.length:=by unfold Dx;simp only[List.length_append];omega
theorem Kh(hR:R.length=10)(hQ:Q.length=3)(hm:ms.length=6)(hq:qs.length=23)(he:es.length=4)(i:Nat)(hi:i<6)(v:Value):(Dx R Q ms qs es ds).set (13+i) v=Dx R Q (ms.set i v) qs es ds:=by
 unfold Dx;rw[List.set_append_right _ _ I,List.set_append_right _ _ I,List.set_append_left _ _ I,show 13+i-R.length-Q.length=i by omega]
theorem FL(hR:R.length=10)(hQ:Q.length=3)(hm:ms.length=6)(hq:qs.length=23)(he:es.length=4)(i:Nat)(hi:i<4)(v:Value):(Dx R Q ms qs es ds).set (42+i) v=Dx R Q ms qs (es.set i v) ds:=by
 unfold Dx;rw[List.set_append_right _ _ I,List.set_append_right _ _ I,List.set_append_right _ _ I,List.set_append_right _ _ I,List.set_append_left _ _ I,show 42+i-R.length-Q.length-ms.length-qs.length=i by omega]
theorem adN(hR:R.length=10)(hQ:Q.length=3)(hm:ms.length=6)(hq:qs.length=23)(he:es.length=4):(Dx R Q ms qs es ds).take 19=R++(Q++ms):=by
 unfold Dx;rw[<-List.append_assoc,<-List.append_assoc,List.append_assoc R Q ms];exact List.take_left' dE
theorem acd(hR:R.length=10)(hQ:Q.length=3)(hm:ms.length=6)(hq:qs.length=23)(he:es.length=4)(qs':List Value)(hq':qs'.length=23):(Dx R Q ms qs es ds).take 19++qs'++(Dx R Q ms qs es ds).drop (19+qs'.length)=Dx R Q ms qs' es ds:=by
 rw[adN hR hQ hm hq he,hq',<-List.drop_drop,P6 hR hQ hm hq he,List.drop_left' hq];simp[Dx]
theorem ace(hR:R.length=10)(hQ:Q.length=3)(hm:ms.length=6)(hq:qs.length=23)(he:es.length=4)(ds':List Value)(hd:ds.length=14)(hd':ds'.length=14):(Dx R Q ms qs es ds).take 46++ds'++(Dx R Q ms qs es ds).drop (46+ds'.length)=Dx R Q ms qs es ds':=by
 rw[List.drop_of_length_le (by rw[Jd hR hQ hm hq he];omega),List.append_nil];have e:(Dx R Q ms qs es ds).take 46=R++(Q++(ms++(qs++es))):=by unfold Dx;rw[<-List.append_assoc,<-List.append_assoc,<-List.append_assoc,<-List.append_assoc];rw[List.take_left' dE];simp only[List.append_assoc]
 rw[e];simp[Dx]
end
def XX(gl:Nat)(vt:Value)(x:Xc):List Value:=[.pointer (some ⟨gl,0,none⟩),vt,.int .i64 x.k,.int .i64 x.lg,.int .i64 x.left,.int .i64 x.uz]
def rxE(dp:Option Nat)(x:Xc):List Value:=[Gg dp,.bool x.hard,.bool x.done,.int .i64 x.vd]
def acf(A:Option Addr)(c:Nat)(q:Qn)(qs:List Value):Prop:=qs=Qe\/∃y:Qy,y.sv.ip.length=16/\y.q=q/\qs=xX (.slice A q.name.length c) y
theorem acf.ql{q:Qn}{qs:List Value}(h:acf A c q qs):qs.length=23:=by
 rcases h with rfl|⟨y,U,_,rfl⟩
 ·rfl
 ·exact xi U
structure BS (w0 w:World) (g gl:Nat) (A:Option Addr) (c:Nat) (As:Option Addr) (cd:Nat) (x:Xc) (L:Lt) (qs:List Value) (dp:Option Nat):Prop where
 b:∃R vt ds,Z w g 90 (Dx R (qC (.slice A x.q.name.length c) x.q) (XX gl vt x) qs (rxE dp x) ds)/\R.length=10/\R[4]?=some (.int .i64 x.hS)/\R[7]?=some (.bool x.vc)/\R[9]?=some (.bool x.ed)/\y8 w 0 vt x.tr/\uA w ds x.xP
 l:Z w gl 86 [.slice As L.ds.length cd,.int .i64 L.us]
 nm:xj w0 A c x.q.name
 nl:uQ x.q.name<=400
 dr:Oo w0 As L.ds
 bw:al w0 w
 lo:w0.heap.size<=g
 ll:w0.heap.size<=gl
 qk:acf A c x.q qs
section
variable {w0 w w':World} {g gl:Nat} {A As:Option Addr} {c cd:Nat} {x x':Xc} {L:Lt} {qs qs':List Value} {dp dp':Option Nat}
theorem BS.ql(h:BS w0 w g gl A c As cd x L qs dp):qs.length=23:=h.qk.ql
theorem BS.lot(h:BS w0 w g gl A c As cd x L qs dp):P4 w gl As cd L:=by
 refine⟨h.l,fun hp=>?_,fun hp b F=>?_⟩
 ·obtain⟨b,off,U,X,h3⟩:=h.dr hp;exact⟨b,off,U,Nat.lt_of_lt_of_le X h.bw.size,tX h3 h.bw X⟩
 ·obtain⟨b',off,U,X,h3⟩:=h.dr hp;rw[U]at F;injection F with F;subst F;have:=h.ll;show b'≠gl;omega
theorem BS.ne(h:BS w0 w g gl A c As cd x L qs dp):g≠gl:=by
 obtain⟨_,_,_,F,_⟩:=h.b;exact wJ F h.l ax
theorem BS.fr{S:Nat->Prop}(h:BS w0 w g gl A c As cd x L qs dp)(k:Fr S w w')(hg:¬S g)(hl:¬S gl)(M:∀i,S i->w0.heap.size<=i):BS w0 w' g gl A c As cd x L qs dp:=by
 obtain⟨R,vt,ds,F,U,X,h3,h4,h5,h6⟩:=h.b;exact⟨⟨R,vt,ds,k.uG F hg,U,X,h3,h4,k.I5 h5 cQ,k.xP h6⟩,k.uG h.l hl,h.nm,h.nl,h.dr,k.zN h.bw h.bw.size (fun i hi hs=>by have:=M i hs;omega),h.lo,h.ll,h.qk⟩
theorem BS.G(h:BS w0 w g gl A c As cd x L qs dp)(k:al w w'):BS w0 w' g gl A c As cd x L qs dp:=h.fr (S:=fun _=>False) (Fr.G k) (fun h=>h) (fun h=>h) (fun _ h=>h.elim)
theorem BS.put(h:BS w0 w g gl A c As cd x L qs dp)(hg:w.grownBy w' (some g))(e1:x'.q=x.q)(e2:x'.tr=x.tr)(e3:x'.hS=x.hS)(e4:x'.vc=x.vc)(e5:x'.ed=x.ed)(hq:acf A c x.q qs')
  (F:∀R vt ds,R.length=10->ds.length=14->Z w g 90 (Dx R (qC (.slice A x.q.name.length c) x.q) (XX gl vt x) qs (rxE dp x) ds)->uA w' ds x.xP->∃ds',Z w' g 90 (Dx R (qC (.slice A x.q.name.length c) x.q) (XX gl vt x') qs' (rxE dp' x') ds')/\uA w' ds' x'.xP):BS w0 w' g gl A c As cd x' L qs' dp':=by
 obtain⟨R,vt,ds,hb0,U,X,h3,h4,h5,h6⟩:=h.b;have fr:Fr (fun i=>i=g) w w':=Fr.grown hg hb0 (.inr (.inr (.inr (.inr (.inr (.inl J)))))) J;obtain⟨ds',k1,k2⟩:=F R vt ds U h6.len hb0 (fr.xP h6);exact⟨⟨R,vt,ds',by rw[e1];exact k1,U,by rw[e3];exact X,by rw[e4];exact h3,by rw[e5];exact h4,by rw[e2];exact fr.I5 h5 cQ,k2⟩,fr.uG h.l (fun e=>h.ne e.symm),by rw[e1];exact h.nm,by rw[e1];exact h.nl,h.dr,fr.zN h.bw h.bw.size (fun i hi hs=>by have:=h.lo;omega),h.lo,h.ll,by rw[e1];exact hq⟩
theorem BS.cells(h:BS w0 w g gl A c As cd x L qs dp):∃h2 vt ds,Z w g 90 h2/\h2.length=60/\h2[4]?=some (.int .i64 x.hS)/\h2[7]?=some (.bool x.vc)/\h2[9]?=some (.bool x.ed)/\(h2.drop 10).take 3=qC (.slice A x.q.name.length c) x.q/\h2[13]?=some (.pointer (some ⟨gl,0,none⟩))/\h2[14]?=some vt/\h2[15]?=some (.int .i64 x.k)/\h2[16]?=some (.int .i64 x.lg)/\h2[17]?=some (.int .i64 x.left)/\h2[18]?=some (.int .i64 x.uz)/\(h2.drop 19).take 23=qs/\h2[42]?=some (Gg dp)/\h2[43]?=some (.bool x.hard)/\h2[44]?=some (.bool x.done)/\h2[45]?=some (.int .i64 x.vd)/\h2.drop 46=ds/\y8 w 0 vt x.tr/\uA w ds x.xP:=by
 obtain⟨R,vt,ds,F,U,X,h3,h4,h5,h6⟩:=h.b;have hq:=h.ql;refine⟨_,vt,ds,F,by rw[Jd U J J hq J,h6.len],by rw[ab9 U J J hq J 4 I];exact X,by rw[ab9 U J J hq J 7 I];exact h3,by rw[ab9 U J J hq J 9 I];exact h4,aca U J J hq J,Jc U J J hq J 0 I,Jc U J J hq J 1 I,Jc U J J hq J 2 I,Jc U J J hq J 3 I,Jc U J J hq J 4 I,Jc U J J hq J 5 I,ae8 U J J hq J,acb U J J hq J 0 I,acb U J J hq J 1 I,acb U J J hq J 2 I,acb U J J hq J 3 I,aeF U J J hq J,h5,h6⟩
theorem BS.aeG(h:BS w0 w g gl A c As cd x L qs dp)(i:Nat)(hi:i<6)(v:Value)(hw:∀h2,Z w g 90 h2->Z w' g 90 (h2.set (13+i) v))(hg:w.grownBy w' (some g))(e1:x'.q=x.q)(e2:x'.tr=x.tr)(e3:x'.hS=x.hS)(e4:x'.vc=x.vc)(e5:x'.ed=x.ed)(e6:x'.xP=x.xP)(hm:∀vt,(XX gl vt x).set i v=XX gl vt x')(he:rxE dp x'=rxE dp x):BS w0 w' g gl A c As cd x' L qs dp:=
 h.put hg e1 e2 e3 e4 e5 h.qk (fun R vt ds hR hd F hM=>⟨ds,by
  have:=hw _ F;rwa[Kh hR J J h.ql J i hi,hm,<-he]at this,by rw[e6];exact hM⟩)
theorem BS.adO(h:BS w0 w g gl A c As cd x L qs dp)(i:Nat)(hi:i<4)(v:Value)(hw:∀h2,Z w g 90 h2->Z w' g 90 (h2.set (42+i) v))(hg:w.grownBy w' (some g))(e1:x'.q=x.q)(e2:x'.tr=x.tr)(e3:x'.hS=x.hS)(e4:x'.vc=x.vc)(e5:x'.ed=x.ed)(e6:x'.xP=x.xP)(hm:∀vt,XX gl vt x'=XX gl vt x)(he:(rxE dp x).set i v=rxE dp' x'):BS w0 w' g gl A c As cd x' L qs dp':=
 h.put hg e1 e2 e3 e4 e5 h.qk (fun R vt ds hR hd F hM=>⟨ds,by
  have:=hw _ F;rwa[FL hR J J h.ql J i hi,he,<-hm]at this,by rw[e6];exact hM⟩)
end
structure zU (w0 w:World) (g gl:Nat) (A:Option Addr) (c:Nat) (As:Option Addr) (cd:Nat) (D:Option Nat) (x:Xc) (L:Lt):Prop where
 ok:x.ok
 s:∃qs,BS w0 w g gl A c As cd x L qs D/\(x.done=false->x.xP=vo.zero/\qs=xX (.slice A x.q.name.length c) x.y/\(x.lg=2->∃gd,D=some gd/\w0.heap.size<=gd/\vA w gd x.d A c))
def Cr(w0:World)(g gl:Nat)(A:Option Addr)(c:Nat)(As:Option Addr)(cd:Nat)(r:XR)(w:World)(e:Ending)(w':World):Prop:=∃v D',e= .returned v/\vI w.heap.size w' v r.2.2/\zU w0 w' g gl A c As cd D' r.1 r.2.1/\Fr (LS g gl) w w'
theorem acg{x:Xc}(h:x.st)(L:Lt)(lg:Nat)(O:x.k<x.tr.length):(xM x L lg).1.ok:=by
 obtain⟨i1,i2,iq,isv⟩:=Kf x L;have e0:=Sq h L;have hs:=h.leg L lg;have eN:(yW (xZ x L)).1.st=0/\(yW (xZ x L)).1.y=xZ x L:=by unfold yW;rw[if_pos e0];exact⟨J,J⟩
 refine⟨fun _=>hs,fun _=>?_⟩;unfold xM;split
 ·exact⟨O,h.to1,Int.le_refl _,iq,isv,fun _=>⟨eN.1,eN.2,VA _⟩⟩
 ·rename_i hn;exact⟨O,h.to1,Int.le_refl _,iq,isv,fun e=>absurd e hn⟩
section
variable {w0 w w':World} {g gl:Nat} {A As:Option Addr} {c cd:Nat} {x:Xc} {L L':Lt} {qs:List Value} {dp:Option Nat}
theorem BS.drawn(h:BS w0 w g gl A c As cd x L qs dp)(hg:w.grownBy w' (some gl))(hl:P4 w' gl As cd L')(hd:L'.ds=L.ds):BS w0 w' g gl A c As cd x L' qs dp:=by
 have fr:Fr (fun i=>i=gl) w w':=Fr.grown hg h.l (.inr (.inr (.inr (.inl J)))) J;obtain⟨R,vt,ds,F,U,X,h3,h4,h5,h6⟩:=h.b;exact⟨⟨R,vt,ds,fr.uG F h.ne,U,X,h3,h4,fr.I5 h5 cQ,fr.xP h6⟩,hl.1,h.nm,h.nl,by rw[hd];exact h.dr,fr.zN h.bw h.bw.size (fun i hi hs=>by have:=h.ll;omega),h.lo,h.ll,h.qk⟩
end
theorem XJ(fam cl port id:Int)(q:Qn)(b0 b1 b2 b3 b4 b5 b6 b7 b8 b9 b10 b11 b12 b13 b14 b15:UInt8)(A:Option Addr)(n c:Nat)(W:World):
  (Instr.build 30 #[(0,.agg (uV.cells ⟨fam,[b0,b1,b2,b3,b4,b5,b6,b7,b8,b9,b10,b11,b12,b13,b14,b15],cl⟩).toArray),(1,.int .i64 port),(2,.int .i64 id),(3,.agg #[.slice A n c,.int .i64 q.E,.int .i64 q.N])]).run prog W= .ok (.agg (xX (.slice A n c) ⟨⟨fam,[b0,b1,b2,b3,b4,b5,b6,b7,b8,b9,b10,b11,b12,b13,b14,b15],cl⟩,port,id,q⟩).toArray) W:=by
 kernel_rfl
theorem ach(y:Qy)(h:y.sv.ip.length=16)(A:Option Addr)(n c:Nat)(W:World):
  (Instr.build 30 #[(0,.agg y.sv.cells.toArray),(1,.int .i64 y.port),(2,.int .i64 y.id),(3,.agg #[.slice A n c,.int .i64 y.q.E,.int .i64 y.q.N])]).run prog W= .ok (.agg (xX (.slice A n c) y).toArray) W:=by
 obtain⟨⟨fam,ip,cl⟩,port,id,q⟩:=y;have h':ip.length=16:=h;clear h;match ip,h' with
 |[b0,b1,b2,b3,b4,b5,b6,b7,b8,b9,b10,b11,b12,b13,b14,b15],_=>exact XJ fam cl port id q b0 b1 b2 b3 b4 b5 b6 b7 b8 b9 b10 b11 b12 b13 b14 b15 A n c W
theorem Eb(w0:World)(g gl:Nat)(A:Option Addr)(c:Nat)(As:Option Addr)(cd:Nat)(x:Xc)(L:Lt)(qs:List Value)(dp:Option Nat)(lg:Nat)(w:World)(h:BS w0 w g gl A c As cd x L qs dp)(hst:x.st)(hdn:x.done=false)(hmz:x.xP=vo.zero)(O:x.k<x.tr.length)(hu:L.us<=999999990)(hsn:x.uz<=1000000)(hlg:lg<=2):
  Calls prog 147 #[.pointer (some ⟨g,0,none⟩),.int .i64 lg] w (Cr w0 g gl A c As cd (xM x L lg) w):=by
 obtain⟨h2,vt,ds,F,hM,m4,m7,m9,m10,m13,m14,m15,m16,m17,m18,m19,m42,m43,m44,m45,m46,hT,hm⟩:=h.cells;obtain⟨lcs,hlb⟩:∃lcs,Z w gl 86 lcs:=⟨_,h.l⟩;have gne:=h.ne;have hgl:=F.lt;obtain⟨p1,p2⟩:=Fp L (show(0:Int)<64512 by decide);obtain⟨q1,q2⟩:=Fp (wZ L 64512).2 (show(0:Int)<65536 by decide);have D1:=Y (Ox gl As cd L 64512 w h.lot ax ax I);have D2:=Y (fun W h=>Ox gl As cd (wZ L 64512).2 65536 W h ax ax eR);have a13:=F.K 13 m13;have HH:=Lib.hid h;have HMZ:=Y hmz;obtain⟨i1,i2,iq,isv⟩:=Kf x L;have HY:Hid (xZ x L=⟨x.tr[x.k],1024+(wZ L 64512).1,(wZ (wZ L 64512).2 65536).1,x.q⟩/\GL L=(wZ (wZ L 64512).2 65536).2):=Y ⟨by unfold xZ;rw[show x.tr.getD x.k uV.zero=x.tr[x.k]from by simp[O]],J⟩;clear h hT hm m10 m16 m17 m19 m42 m43 m44 m45 m46;go_enter func147,ntmps147;go_wp2_with fail;refine D1.out.mono ?_;rintro _ w1 ⟨rfl,l1,g1⟩;have H1:=Y (HH.out.drawn g1 l1 J);have hb1:=F.grown g1 (by intro e;injection e with e;exact gne e);have b13:=hb1.K 13 m13;have D2':=Y (D2.out w1 l1);have F1:Hid (Fr (LS g gl) w w1):=Y (Fr.grown g1 hlb (.inr (.inr (.inr (.inl J)))) (.inr J));clear D1 D2 a13 g1 F l1 HH;generalize(wZ L 64512).1=pp at*;go_wp2_with fail;refine D2'.out.mono ?_;rintro _ w2 ⟨rfl,l2,g2⟩;have H2:=Y (H1.out.drawn g2 l2 J);have F2:Hid (Fr (LS g gl) w w2):=Y (F1.out.trans (Fr.grown g2 H1.out.l (.inr (.inr (.inr (.inl J)))) (.inr J)) (fun _ _ h=>h));clear D2' b13 g2 hb1 l2 H1 F1 hlb;generalize(wZ (wZ L 64512).2 65536).1=ii at*;obtain⟨R,vt2,ds2,hb2,r1,r2,r3,r4,r5,r6⟩:=H2.out.b;have hqs:=H2.out.ql;obtain⟨At,ct,hvt⟩:=r5.form;subst hvt;obtain⟨gt,hAt,hgt,aht⟩:=uy.ud (fun _ _ h=>h.len) r5 I;obtain⟨tc,hrg,htc,ty⟩:=aht x.k O;subst hAt;rw[htc]at hrg;clear aht htc;obtain⟨yy,hyy⟩:∃yy:Qy,yy=⟨x.tr[x.k],1024+pp,ii,x.q⟩:=gp;have hyi:yy.sv.ip.length=16:=by rw[hyy];exact ty
 have hql:(xX (.slice A x.q.name.length c) yy).length=23:=xi hyi;have hqo:∀v∈xX (.slice A x.q.name.length c) yy,v.oneCell'=true:=Vx J;have RB:Hid (∀W,(Instr.build 30 #[(0,.agg x.tr[x.k].cells.toArray),(1,.int .i64 (1024+pp)),(2,.int .i64 ii),(3,.agg (qC (.slice A x.q.name.length c) x.q).toArray)]).run prog W= .ok (.agg (xX (.slice A x.q.name.length c) yy).toArray) W):=Y (fun W=>by rw[hyy];exact ach ⟨x.tr[x.k],1024+pp,ii,x.q⟩ ty A _ c W);have HYY:Hid (xZ x L=yy/\GL L=(wZ (wZ L 64512).2 65536).2):=Y ⟨by rw[HY.out.1,hyy],HY.out.2⟩;have e1:Hid (x.tr[x.k].cells.length=18):=Y (uV.ur _ ty);have HYQ:Hid (yy.q=x.q):=Y (by rw[hyy]);have HYP:Hid (yy.port=1024+pp/\yy.id=ii/\yy.sv=x.tr[x.k]):=Y (by rw[hyy];exact⟨J,J,J⟩);clear hyy ty HY;generalize hac:x.tr[x.k].cells=ac at*;clear hac;have LDS:Hid (∀(V:World) (tM:List Value),tM.length=60->tM[14]?=some (.slice (some ⟨gt,0,none⟩) x.tr.length ct)->tM[15]?=some (.int .i64 x.k)->(tM.drop 10).take 3=qC (.slice A x.q.name.length c) x.q->Z V g 90 tM->V.rangeAt gt (0+x.k*18) ac->
   (Instr.loadAt 65 (.pointer (some ⟨g,14,none⟩))).run prog V= .ok (.slice (some ⟨gt,0,none⟩) x.tr.length ct) V/\(Instr.loadAt 3 (.pointer (some ⟨g,15,none⟩))).run prog V= .ok (.int .i64 x.k) V/\(Instr.loadAt 24 (.pointer (some ⟨gt,0+x.k*18,none⟩))).run prog V= .ok (.agg ac.toArray) V/\(Instr.loadAt 28 (.pointer (some ⟨g,10,none⟩))).run prog V= .ok (.agg (qC (.slice A x.q.name.length c) x.q).toArray) V):=Y (fun V tM n0 n1 n2 n3 hV hr=>
  ⟨tV underlying65 J (hV.K 14 n1),tV underlying3 J (hV.K 15 n2),yo hr underlying24 J eS,hV.wk 28 10 3 I _ underlying28 J xh _ n3⟩)
 have kd:Below w2.heap.size w2 w2.drew:=iH;have hdl:=r6.len;have rl:=Jd r1 (rfl:(qC (.slice A x.q.name.length c) x.q).length=3) (rfl:(XX gl (.slice (some ⟨gt,0,none⟩) x.tr.length ct) x).length=6) hqs (rfl:(rxE dp x).length=4) (ds:=ds2);have hS0:=LDS.out w2.drew _ (by rw[rl,hdl]) (Jc r1 J J hqs J 1 I) (Jc r1 J J hqs J 2 I) (aca r1 J J hqs J) hb2.drew (tX hrg kd hgt);go_wp2_with fail;refine wp_region_held_drew (S:=fun V=>(Instr.loadAt 65 (.pointer (some ⟨g,14,none⟩))).run prog V= .ok (.slice (some ⟨gt,0,none⟩) x.tr.length ct) V/\(Instr.loadAt 3 (.pointer (some ⟨g,15,none⟩))).run prog V= .ok (.int .i64 x.k) V/\(Instr.loadAt 24 (.pointer (some ⟨gt,0+x.k*18,none⟩))).run prog V= .ok (.agg ac.toArray) V/\(Instr.loadAt 28 (.pointer (some ⟨g,10,none⟩))).run prog V= .ok (.agg (qC (.slice A x.q.name.length c) x.q).toArray) V) (by kernel_rfl) hS0 (fun M=>?_);refine uh M 20 [0,1,2,3,4,5,6,7,8,9,10,11,12,13,14,15,16,17,18,19] J (by kernel_rfl) (fun _ _ _ _ _ h=>h) J J ?_
 (refine aj (.pointer (some ⟨g,0,none⟩)) ?_;simp only[z])
 (refine aj (.pointer (some ⟨g,0,none⟩)) ?_;simp only[z])
 (refine aj (.pointer (some ⟨g,0,none⟩)) ?_;simp only[z])
 (refine aj (.pointer (some ⟨g,14,none⟩)) ?_;simp only[z])
 (refine ah _ J J (fun V hV=>(ul 65 (.tmp 25) ⟨g,14,none⟩ J J hV.1)) ?_;simp only[z])
 (refine aj (.pointer (some ⟨g,0,none⟩)) ?_;simp only[z])
 (refine aj (.pointer (some ⟨g,0,none⟩)) ?_;simp only[z])
 (refine aj (.pointer (some ⟨g,15,none⟩)) ?_;simp only[z])
 (refine ah _ J J (fun V hV=>(ul 3 (.tmp 29) ⟨g,15,none⟩ J J hV.2.1)) ?_;simp only[z])
 (refine ah (.pointer (some ⟨gt,0+x.k*18,none⟩)) J J (fun V hV=>(yA underlying65 AZ ax (.tmp 26) (.tmp 30) J J J O V)) ?_;simp only[z])
 (refine ah _ J J (fun V hV=>(ul 24 (.tmp 31) ⟨gt,0+x.k*18,none⟩ J J hV.2.2.1)) ?_;simp only[z])
 (refine aj (.int .i64 (1024+pp)) ?_;simp only[z])
 (refine aj (.int .i64 ii) ?_;simp only[z])
 (refine aj (.pointer (some ⟨g,0,none⟩)) ?_;simp only[z])
 (refine aj (.pointer (some ⟨g,0,none⟩)) ?_;simp only[z])
 (refine aj (.pointer (some ⟨g,10,none⟩)) ?_;simp only[z])
 (refine ah _ J J (fun V hV=>(ul 28 (.tmp 37) ⟨g,10,none⟩ J J hV.2.2.2)) ?_;simp only[z])
 (refine ah (.agg (xX (.slice A x.q.name.length c) yy).toArray) J J (fun V hV=>(z6 30 _ J #[(0,.agg ac.toArray),(1,.int .i64 (1024+pp)),(2,.int .i64 ii),(3,.agg (qC (.slice A x.q.name.length c) x.q).toArray)] (by kernel_rfl) (RB.out V))) ?_;simp only[z])
 (refine aj (.pointer (some ⟨g,0,none⟩)) ?_;simp only[z])
 (refine aj (.pointer (some ⟨g,19,none⟩)) ?_;simp only[z])
 simp only[vx];refine vz 20 none 30 (.tmp 41) (.tmp 39) (by kernel_rfl) J J J (by kernel_rfl) g 19 J (xX (.slice A x.q.name.length c) yy) J hb2.drew (by rw[rl,hql];omega) (by rw[hql];exact DX) hqo ?_;intro w3 B3 g3 s3;rw[acd r1 J J hqs J _ hql]at B3;have k3:w2.grownBy w3 (some g):=tU (xV (World.grownBy.refl w2 (some g))) g3 (.inl J);have akS:w3.rangeAt gt (0+x.k*18) ac:=by obtain⟨gc,hgb⟩:=uy.aae r5 I;exact fun j v hv=>by rw[<-hrg j v hv];exact yH k3 ⟨gt,_,none⟩ hgt (by simp;exact wJ hgb hb2 ax)
 have rl3:=Jd r1 (rfl:(qC (.slice A x.q.name.length c) x.q).length=3) (rfl:(XX gl (.slice (some ⟨gt,0,none⟩) x.tr.length ct) x).length=6) hql (rfl:(rxE dp x).length=4) (ds:=ds2);refine⟨LDS.out w3 _ (by rw[rl3,hdl]) (Jc r1 J J hql J 1 I) (Jc r1 J J hql J 2 I) (aca r1 J J hql J) B3 akS,?_⟩;have d4:=B3.K 4 (by rw[ab9 r1 J J hql J 4 I];exact r2);have d18:=B3.K 18 (Jc r1 J J hql J 5 I);have d16:=B3.K 16 (Jc r1 J J hql J 3 I);have d17:=B3.K 17 (Jc r1 J J hql J 4 I);have f16:=B3.frozen 16;have f17:=B3.frozen 17;have f18:=B3.frozen 18;obtain⟨x1,hx1⟩:∃x1,Hid (x1={x with y:=yy,lg:=lg,left:=x.hS,uz:=x.uz+1}):=gG;have F6:Hid (Fr (LS g gl) w (((w3.setCell ⟨g,16,none⟩ (.int .i64 lg)).setCell ⟨g,17,none⟩ (.int .i64 x.hS)).setCell ⟨g,18,none⟩ (.int .i64 ((x.uz:Int)+1)))):=Y (F2.out.trans (Fr.grown (S:=LS g gl) (uq (uq (uq k3 16 (.int .i64 lg)) 17 (.int .i64 x.hS)) 18 (.int .i64 ((x.uz:Int)+1))) hb2 (.inr (.inr (.inr (.inr (.inr (.inl J)))))) (.inl J)) (fun _ _ h=>h));have H6:Hid (BS w0 (((w3.setCell ⟨g,16,none⟩ (.int .i64 lg)).setCell ⟨g,17,none⟩ (.int .i64 x.hS)).setCell ⟨g,18,none⟩ (.int .i64 ((x.uz:Int)+1))) g gl A c As cd x1 (wZ (wZ L 64512).2 65536).2 (xX (.slice A x.q.name.length c) yy) dp):=Y (by
  have C1:=B3.set 16 (.int .i64 lg);rw[Kh r1 J J hql J 3 I]at C1;have C2:=C1.set 17 (.int .i64 x.hS);rw[Kh r1 J J hql J 4 I]at C2;have C3:=C2.set 18 (.int .i64 ((x.uz+1:Nat):Int));rw[Kh r1 J J hql J 5 I]at C3;have e:(.int .i64 ((x.uz:Int)+1))=Value.int .i64 ((x.uz+1:Nat):Int):=lX;have afr:=uq (uq (uq k3 16 (.int .i64 lg)) 17 (.int .i64 x.hS)) 18 (.int .i64 ((x.uz+1:Nat):Int));have fr:Fr (fun i=>i=g) w2 _:=Fr.grown afr hb2 (.inr (.inr (.inr (.inr (.inr (.inl J)))))) J;rw[e,hx1.out];exact⟨⟨R,_,ds2,C3,r1,r2,r3,r4,fr.I5 r5 cQ,fr.xP r6⟩,fr.uG H2.out.l (fun e=>gne e.symm),H2.out.nm,H2.out.nl,H2.out.dr,fr.zN H2.out.bw H2.out.bw.size (fun i hi hs=>by have:=H2.out.lo;omega),H2.out.lo,H2.out.ll,.inr ⟨yy,hyi,HYQ.out,J⟩⟩)
 clear akS k3 g3 B3 hrg LDS RB F2 H2 hb2 hS0 M kd r5 r6 s3 rl rl3 r2 r3 r4;simp only[z];refine wpAnyH_done (by kernel_rfl) ?_ _;have awB:(x.uz:Int)<=1000000:=I;have awA:(0:Int)<=x.uz:=I;generalize(x.uz:Int)=sn at*;go_upto_region 7 with fail;obtain⟨W6,hW6⟩:∃W6,W6=(((w3.setCell ⟨g,16,none⟩ (.int .i64 lg)).setCell ⟨g,17,none⟩ (.int .i64 x.hS)).setCell ⟨g,18,none⟩ (.int .i64 (sn+1))):=gp;rw[<-hW6]at F6 H6⊢;clear hW6 d4 d16 d17 d18 f16 f17 f18;have hxq:x1.q=x.q:=by rw[hx1.out]
 obtain⟨M6,vt6,ds6,hb6,hM6,n4,n7,n9,n10,n13,n14,n15,n16,n17,n18,n19,n42,n43,n44,n45,n46,hT6,hm6⟩:=H6.out.cells;have NM6:Hid (xj W6 A c x.q.name):=Y (by have:=H6.out.nm.G H6.out.bw;rwa[hxq]at this);have LXO:=Y (acg hst L lg O);clear hT6 hm6 n4 n7 n13 n14 n15 n16 n17 n18 n43 n44 n45 n46;by_cases X:lg=2
 case pos=>
  have HLX:Hid (xM x L lg=({x1 with d:=(yW yy).1},GL L,(yW yy).2)):=Y (by
   unfold xM;rw[if_pos X,HYY.out.1,hx1.out,X])
  subst X;have RN:=Y (aay (xX (.slice A x.q.name.length c) yy) yy A c W6 ⟨by rw[HYQ.out],hyi,by rw[HYQ.out];exact NM6.out⟩);have hIQ:(xX (.slice A x.q.name.length c) yy).length=23:=hql;obtain⟨Q,hQ⟩:=ao (xX (.slice A x.q.name.length c) yy);rw[hQ.out]at RN n19 hIQ;clear hlg;go_wp2_with(refine tO (.load 30 (.tmp 66)) J ?_;go_must(refine tP J _ _ J g 19 J hb6 23 I _ underlying30 J DX Q n19 ?_));refine RN.out.mono ?_;rintro _ w7 ⟨gd,v,rfl,hD,hO,b7,hgd⟩;have hb7:=hb6.G b7 hb6.lt;have H7:=Y (H6.out.G b7);have F7:Hid (Fr (LS g gl) w w7):=Y (F6.out.trans (Fr.G (S:=LS g gl) b7) (fun _ _ h=>h));have HD:=Y hD;have HO:=Y hO;have arA:w.heap.size<=W6.heap.size:=F6.out.size;have d42:=hb7.K 42 n42;have f42:=hb7.frozen 42;clear RN hb6 b7 hD hO F6;have FIN:Hid (Cr w0 g gl A c As cd (xM x L 2) w (.returned v) (w7.setCell ⟨g,42,none⟩ (.pointer (some ⟨gd,0,none⟩)))):=Y (by
   have afr:=uL w7 g 42 (.pointer (some ⟨gd,0,none⟩));rw[HLX.out];have H8:BS w0 (w7.setCell ⟨g,42,none⟩ (.pointer (some ⟨gd,0,none⟩))) g gl A c As cd {x1 with d:=(yW yy).1} (GL L) (xX (.slice A x.q.name.length c) yy) (some gd):=by rw[HYY.out.2];exact H7.out.adO 0 I (.pointer (some ⟨gd,0,none⟩)) (fun h2 hM=>hM.set 42 _) afr J J J J J J (fun vt=>rfl) J
   refine⟨v,some gd,J,?_,⟨?_,⟨_,H8,fun _=>⟨?_,?_,fun _=>⟨gd,J,?_,?_⟩⟩⟩⟩,?_⟩
   ·exact(HO.out.grown afr I).mono I
   ·have:=LXO.out;rw[HLX.out]at this;exact this
   ·rw[hx1.out];exact HMZ.out
   ·rw[hx1.out]
   ·exact Nat.le_trans H6.out.bw.size hgd
   ·obtain⟨ds,k1,k2,k3⟩:=HD.out;exact⟨ds,k1.grown afr (by intro e;injection e with e;exact k1.Vy hb7 ax e),k2,k3.Lj afr hb7 ax ax ax⟩
   ·
    exact F7.out.trans (Fr.grown (S:=LS g gl) afr hb7 (.inr (.inr (.inr (.inr (.inr (.inl J)))))) (.inl J)) (fun _ _ h=>h))
  exact qt
 have HLX:Hid (xM x L lg=(x1,GL L,[⟨1,yy.sv,yy.port,(vg (vw x.q yy.id (decide (lg=0)&&x.ed)) false).1⟩])):=Y (by
  rw[aai X,HYY.out.1,hx1.out])
 have amr:((lg:Int)==2)=false:=az;have BU:=Y (fun V (hV:al W6 V) eb=>Bj A c x.q yy.id eb V (NM6.out.G hV));rw[HYP.out.2.1]at BU;have LQ:Hid (∀V,al W6 V->(Instr.loadAt 28 (.pointer (some ⟨g,10,none⟩))).run prog V= .ok (.agg #[.slice A x.q.name.length c,.int .i64 x.q.E,.int .i64 x.q.N]) V):=Y (fun V hV=>(hb6.G hV hb6.lt).wk 28 10 3 I _ underlying28 J xh _ (by rw[n10,hxq];rfl));have L9:Hid (∀V,al W6 V->(Instr.loadAt 4 (.pointer (some ⟨g,9,none⟩))).run prog V= .ok (.bool x.ed) V):=Y (fun V hV=>tV underlying4 J ((hb6.G hV hb6.lt).K 9 (by rw[n9,hx1.out])));obtain⟨eb,heb⟩:=ao ((decide (lg=0)&&x.ed));obtain⟨oct,ajZ⟩:=ao ((vg (vw x.q ii eb) false).1);have aw6:=hb6.lt;have arm:(M6.drop 19).take 18=yy.sv.cells:=by have:=congrArg (List.take 18) n19;rw[List.take_take]at this;rw[show(18:Nat)=min 18 23 from J,this];unfold xX;exact List.take_left' (uV.ur _ hyi)
 obtain⟨bz,hbz⟩:=ao ((((lg:Nat):Int)==0));have hez:Hid ((bz&&x.ed)=eb):=Y (by
  rw[<-heb.out,<-hbz.out];congr 1;rw[Bool.eq_iff_iff];simp)
 have RB:=Y (fun W=>Kc 1 yy.sv yy.port oct hyi W);have HLo:=Cy (o:=⟨1,yy.sv,yy.port,oct⟩) hyi;have ON:=Y (fun W=>Ig W ⟨1,yy.sv,yy.port,oct⟩ hyi);obtain⟨oc,hoc⟩:=ao (Ft ⟨1,yy.sv,yy.port,oct⟩);rw[hoc.out]at RB HLo ON;have haY:yy.sv.cells.length=18:=uV.ur _ hyi;obtain⟨ay,hay⟩:=ao yy.sv.cells;rw[hay.out]at RB arm haY;rw[HYP.out.1]at RB;have arA:w.heap.size<=W6.heap.size:=F6.out.size;have FIN:Hid (∀W7,al W6 W7->W6.heap.size<=W7.heap.size->Cr w0 g gl A c As cd (xM x L lg) w (.returned (.slice (some ⟨W7.heap.size,0,none⟩) 1 1)) (W7.alloc (.cells oc.toArray 97))):=Y (fun W7 b7 s7=>by
  have b8:Below W6.heap.size W6 (W7.alloc (.cells oc.toArray 97)):=b7.alloc s7 _;have H8:=H6.out.G b8;have OK:=LXO.out;rw[HLX.out]at OK⊢;refine⟨_,dp,J,?_,⟨OK,⟨xX (.slice A x.q.name.length c) yy,?_,fun _=>⟨?_,?_,fun e=>absurd e ?_⟩⟩⟩,?_⟩
  ·have:=ON.out W7;rw[heb.out,HYP.out.2.1,ajZ.out];exact this.mono (Nat.le_trans arA s7)
  ·rw[<-HYY.out.2]at H8;exact H8
  ·rw[hx1.out];exact HMZ.out
  ·rw[hx1.out]
  ·rw[hx1.out];exact X
  ·
   exact F6.out.trans (Fr.G (S:=LS g gl) b8) (fun _ _ h=>h))
 clear hmz HMZ HLX LXO H6 NM6 F6 HYY HYQ hxq hx1 heb n9 n10 n19 n42 hoc ON haY e1 hql hqo i1 i2 iq isv m18 m4 m7 m9 m13 m14 m15 hM hdl hgt hdn hst;go_wp2_with fail;refine wp_region_held_drew (S:=fun V=>al W6 V) (by kernel_rfl) (Below.refl _ _).drew (fun M=>?_);cases bz
 case' false=>
  obtain rfl:false=eb:=hez.out;refine uh M 14 [0,1,2,3,4,5,6,7,8,9,10,11,12,13] J (by kernel_rfl) (fun _ _ _ _ _ h=>h) J J ?_;repeat(refine aj _ ?_;simp only[z])
  (refine ah _ J J (fun V hV=>(ul 28 (.tmp 79) ⟨g,10,none⟩ J J (LQ.out V hV))) ?_;simp only[z])
  (refine aj (.int .i64 ii) ?_;simp only[z])
  (refine aj (.int .i64 lg) ?_;simp only[z])
  (refine ah (.bool false) J J (fun V hV=>fH) ?_;simp only[z])
  (refine aj (.bool false) ?_;simp only[z])
  repeat(refine⟨_,undef,J,.inr ⟨J,J⟩,?_⟩;simp only[z])
  (refine aj (.bool false) ?_;simp only[z])
  simp only[vx]
 case' true=>
  obtain rfl:x.ed=eb:=hez.out;refine uh M 14 [0,1,2,3,4,5,6,7,8,9,10,11,12,13] J (by kernel_rfl) (fun _ _ _ _ _ h=>h) J J ?_;repeat(refine aj _ ?_;simp only[z])
  (refine ah _ J J (fun V hV=>(ul 28 (.tmp 79) ⟨g,10,none⟩ J J (LQ.out V hV))) ?_;simp only[z])
  (refine aj (.int .i64 ii) ?_;simp only[z])
  (refine aj (.int .i64 lg) ?_;simp only[z])
  (refine ah (.bool true) J J (fun V hV=>fH) ?_;simp only[z])
  repeat(refine aj _ ?_;simp only[z])
  (refine ah _ J J (fun V hV=>(ul 4 (.tmp 88) ⟨g,9,none⟩ J J (L9.out V hV))) ?_;simp only[z])
  (refine aj (.bool x.ed) ?_;simp only[z])
  simp only[vx]
 all_goals
  refine uO 14 (some 91) 82 #[.agg #[.slice A x.q.name.length c,.int .i64 x.q.E,.int .i64 x.q.N],.int .i64 ii,.bool _] (by kernel_rfl) J J (by kernel_rfl) (by go_simp;rfl) (BU.out _ M _) ?_;rintro _ w4 ⟨rfl,b4⟩;have M:=tL M M.size b4;refine⟨_,J,M,?_⟩;simp only[z];rw[ajZ.out];generalize(vg _ false).2=er at*;refine uh M 5 [15,16,17,18,19] J (by kernel_rfl) (fun _ _ _ _ _ h=>h) J J ?_
  (refine aj (.tuple #[.string (bs oct),.int .i64 er]) ?_;simp only[z])
  (refine aj (.string (bs oct)) ?_;simp only[z])
  (refine aj (.int .i64 er) ?_;simp only[z])
  (refine aj (.string (bs oct)) ?_;simp only[z])
  (refine aj (.int .i64 er) ?_;simp only[z])
  simp only[vx];refine wpAnyH_done (by kernel_rfl) ?_ _;have hb4:=hb6.G M aw6;have FF:=Y (FIN.out w4 M M.size);clear FIN BU LQ L9 hb6 b4 hez hbz ajZ;go_wp2_with first
   |(refine tO (.load 24 (.tmp 97)) rfl ?_;go_must(refine tP rfl _ _ rfl g 19 rfl hb4 18 I _ underlying24 rfl AZ ay arm ?_))
   |(refine tO (.build 97 #[(0,.const (.int .i64 1)),(1,.tmp 98),(2,.tmp 99),(3,.tmp 100)]) rfl ?_;go_must(refine wl rfl 97 _ rfl #[(0,.int .i64 1),(1,.agg ay.toArray),(2,.int .i64 (1024+pp)),(3,.string (bs oct))] ea (RB.out _) ?_))
   |(refine tO (.buildSlice 34 1 #[(0,.tmp 101)]) rfl ?_;go_must(refine Cj rfl 34 97 _ 21 _ underlying34 Kd ax ax (.tmp 101) rfl oc rfl HLo ?_))
  go_ret;exact FF.out
theorem S8(w0:World)(g gl:Nat)(A:Option Addr)(c:Nat)(As:Option Addr)(cd:Nat)(x:Xc)(L:Lt)(qs:List Value)(dp:Option Nat)(w:World)(h:BS w0 w g gl A c As cd x L qs dp)(hst:x.st)(hdn:x.done=false)(hmz:x.xP=vo.zero)(O:x.k<x.tr.length)(hu:L.us<=999999990)(hsn:x.uz<=1000000):
  Calls prog 92 #[.pointer (some ⟨g,0,none⟩)] w (Cr w0 g gl A c As cd (Cp x L) w):=by
 have B2:=Y (Eb w0 g gl A c As cd x L qs dp 2 w h hst hdn hmz O hu hsn I);have B0:=Y (Eb w0 g gl A c As cd x L qs dp 0 w h hst hdn hmz O hu hsn I);have hT:Hid (Cp x L=xM x L (if x.vc then 2 else 0)):=Y (by unfold Cp;rw[if_pos O]);obtain⟨h2,vt,ds,F,hM,m4,m7,_⟩:=h.cells;have d7:=F.K 7 m7;clear h hst hdn hmz O hu hsn F m4 m7 hM;obtain⟨b,F⟩:=ao x.vc;rw[F.out]at hT d7;clear F;cases b
 case' false=>go_enter func92,ntmps92;go_wp2_with fail;refine B0.out.mono ?_
 case' true=>go_enter func92,ntmps92;go_wp2_with fail;refine B2.out.mono ?_
 all_goals
  rintro e1 w1 ⟨v,D',rfl,hx⟩;have HX:=Y hx;clear hx;go_wp2_with fail;go_ret;rw[hT.out];exact pR
theorem XK{o:Oper}{a:Act}(x:Operand)(ho:o.op= .call {callee:=.builtin .len,args:= #[x],argTypes:= #[65]})(A:Option Addr)(n c:Nat)(hx:a.eval x= .slice A n c):(execOp a.eval o).run prog w= .ok (.value (.int .i64 (n:Int))) w:=by
 unfold execOp;simp only[ho,resolve,Sem.run_bind,Sem.run_pure,Result.andThen_ok,List.map_toArray,List.map_cons,List.map_nil,hx];go_simp
theorem Cr.back{w0:World}{g gl:Nat}{As:Option Addr}{cd:Nat}{r:XR}{w1 w':World}{e:Ending}(h:Cr w0 g gl A c As cd r w1 e w')(k:Fr (LS g gl) w w1):Cr w0 g gl A c As cd r w e w':=by
 obtain⟨v,D',he,ho,hx,hf⟩:=h;exact⟨v,D',he,ho.mono k.size,hx,k.trans hf (fun _ _ h=>h)⟩
theorem FM(w0:World)(g gl:Nat)(A:Option Addr)(c:Nat)(As:Option Addr)(cd:Nat)(x:Xc)(L:Lt)(qs:List Value)(dp:Option Nat)(w:World)(h:BS w0 w g gl A c As cd x L qs dp)(hst:x.st)(hdn:x.done=false)(hmz:x.xP=vo.zero)(O:x.k<x.tr.length)(hu:L.us<=999999990)(hsn:x.uz<=1000000):
  Calls prog 93 #[.pointer (some ⟨g,0,none⟩)] w (Cr w0 g gl A c As cd (vZ x L) w):=by
 have hkl:(x.k:Int)<=1000:=oi;have hk0:(0:Int)<=x.k:=I;obtain⟨w1,hw1⟩:∃w1,w1=w.setCell ⟨g,15,none⟩ (.int .i64 ((x.k:Int)+1)):=gp;obtain⟨M0,vt0,ds0,hb0,hM0,_,_,_,_,_,_,m15,_⟩:=h.cells;have f15:=hb0.frozen 15;have d15:=hb0.K 15 m15;have afr:=uL w g 15 (.int .i64 ((x.k:Int)+1));have H1:BS w0 w1 g gl A c As cd {x with k:=x.k+1} L qs dp:=by
  rw[hw1];exact h.aeG 2 I (.int .i64 ((x.k:Int)+1)) (fun h2 hM=>hM.set 15 _) afr J J J J J J (fun vt=>by
   have e:(.int .i64 ((x.k:Int)+1))=Value.int .i64 ((x.k+1:Nat):Int):=lX;rw[e];rfl) J
 have F1:Fr (fun i=>i=g) w w1:=by rw[hw1];exact Fr.grown afr hb0 (.inr (.inr (.inr (.inr (.inr (.inl J)))))) J
 obtain⟨h2,vt,ds,F,hM,m4,m7,m9,m10,m13,m14,arq,m16,m17,m18,m19,m42,m43,m44,m45,m46,hT,hm⟩:=H1.cells;obtain⟨At,ct,hvt⟩:=hT.form;subst hvt;have hgl:=F.lt;have L14:=Y (fun V (hV:al w1 V)=>tV underlying65 J ((F.G hV hgl).K 14 m14));have L15:=Y (fun V (hV:al w1 V)=>tV underlying3 J ((F.G hV hgl).K 15 arq));have eK:((({x with k:=x.k+1}:Xc).k:Nat):Int)=(x.k:Int)+1:=rfl;have eT:({x with k:=x.k+1}:Xc).tr.length=x.tr.length:=rfl;rw[eK]at L15;rw[eT]at L14;obtain⟨bl,hbl⟩:=ao (decide ((x.k:Int)+1<(x.tr.length:Int)));have TR:=Y (fun(Hh:x.k+1<x.tr.length)=>S8 w0 g gl A c As cd {x with k:=x.k+1} L qs dp w1.drew (H1.G (Below.refl _ _).drew) ⟨hst.ips,hst.to1,hst.to2,hst.trl,hst.err⟩ hdn hmz Hh hu hsn);have HMZ:=Y hmz;have FIN:Hid (∀(V:World) (hV:al w1 V) (Hh:¬x.k+1<x.tr.length) (v2:Int),v2=(if x.hard then 5 else 4)->∀V',(∀h2,Z V g 90 h2->Z V' g 90 ((h2.set 44 (.bool true)).set 45 (.int .i64 v2)))->V.grownBy V' (some g)->Cr w0 g gl A c As cd (vZ x L) w (.returned (.slice none 0 0)) V'):=Y (fun V hV Hh v2 hv V' hw hgr=>by
  have HV:=H1.G hV;have e:vZ x L=({x with k:=x.k+1,done:=true,vd:=v2,xP:=vo.zero},L,[]):=by unfold vZ Cp;rw[if_neg Hh,hv]
  have H2:BS w0 V' g gl A c As cd {x with k:=x.k+1,done:=true,vd:=v2,xP:=vo.zero} L qs dp:=HV.put hgr J J J J J HV.qk (fun R vt ds hR hd F hM=>⟨ds,by
   have:=hw _ F;rw[FL hR J J HV.ql J 2 I]at this;rw[FL hR J J HV.ql J 3 I]at this;exact this,by rw[<-HMZ.out];exact hM⟩)
  obtain⟨R,vt,ds,hbV,_⟩:=HV.b;rw[e];refine⟨_,dp,J,vI.nil _ _,⟨⟨fun h=>dY,fun h=>dY⟩,⟨qs,H2,fun h=>by cases h⟩⟩,?_⟩;exact((F1.mono (fun i h=>.inl h)).trans (Fr.G (S:=LS g gl) hV) (fun _ _ h=>h)).trans (Fr.grown (S:=LS g gl) hgr hbV (.inr (.inr (.inr (.inr (.inr (.inl J)))))) (.inl J)) (fun _ _ h=>h))
 have F2:Fr (LS g gl) w w1.drew:=(F1.mono (fun i h=>.inl h)).trans (Fr.G (S:=LS g gl) (Below.refl _ _).drew) (fun _ _ h=>h);have TB:=Y (fun(Hh:x.k+1<x.tr.length)=>(TR.out Hh).mono (fun e w' hx=>hx.back F2));have TE:Cp {x with k:=x.k+1} L=vZ x L:=rfl;rw[TE]at TB;have L44:=F.drew.K 44 m44;have L45:=F.drew.K 45 m45;have f44:=F.drew.frozen 44;have f45:=F.drew.frozen 45;have hbd:=F.drew;clear TR H1 F1 F2 h hm hT m46 m45 m44 m42 m19 m18 m17 m16 arq m14 m13 m10 m9 m7 m4 F eK eT TE hb0 hM0 afr hst hdn hmz HMZ hu hsn O;have Hh:Hid (bl=true↔x.k+1<x.tr.length):=Y (by rw[<-hbl.out];simp;omega);generalize vZ x L=RR at*;generalize(x.k:Int)=k at*;generalize x.hard=hd at*;cases bl
 case' false=>have FN:=Y (FIN.out w1.drew (Below.refl _ _).drew (fun h=>by cases Hh.out.2 h))
 case' true=>have TT:=Y (TB.out (Hh.out.1 J))
 all_goals
  clear FIN TB Hh;go_enter func93,ntmps93;go_upto_region 2 with fail;rw[<-hw1];clear hw1;go_wp2_with fail;refine wp_region_held_drew (S:=fun V=>al w1 V) (by kernel_rfl) (Below.refl _ _).drew (fun M=>?_);refine uh M 10 [0,1,2,3,4,5,6,7,8,9] J (by kernel_rfl) (fun _ _ _ _ _ h=>h) J J ?_;repeat(refine aj _ ?_;simp only[z])
  (refine ah _ J J (fun V hV=>(ul 3 (.tmp 12) ⟨g,15,none⟩ J J (L15.out V hV))) ?_;simp only[z])
  repeat(refine aj _ ?_;simp only[z])
  (refine ah _ J J (fun V hV=>(ul 65 (.tmp 16) ⟨g,14,none⟩ J J (L14.out V hV))) ?_;simp only[z])
  (refine ah (.int .i64 (x.tr.length:Int)) J J (fun V hV=>(XK (.tmp 17) J At x.tr.length ct J)) ?_;simp only[z])
  (refine ah (.bool _) J J (fun V hV=>(by change Result.ok (Next.value (Value.bool (decide (k+1<(x.tr.length:Int))))) V=_;rw[hbl.out])) ?_;simp only[z])
  simp only[vx];refine wpAnyH_done (by kernel_rfl) ?_ _;clear L14 L15 hbl
 ·go_wp2_with fail;refine TT.out.mono ?_;rintro e1 w3 ⟨v,D',rfl,hx⟩;have HX:=Y hx;clear hx;go_wp2_with fail;go_ret;exact pR
 ·
  generalize w1.drew=V1 at*;go_upto_region 6 with fail;obtain⟨V2,hV2⟩:∃V2,V2=(V1.setCell ⟨g,44,none⟩ (.bool true)).setCell ⟨g,45,none⟩ (.int .i64 4):=gp;have B2:Z V2 g 90 ((h2.set 44 (.bool true)).set 45 (.int .i64 4)):=by rw[hV2];exact(hbd.set 44 _).set 45 _
  have G2:V1.grownBy V2 (some g):=by rw[hV2];exact uq (uq (World.grownBy.refl V1 (some g)) 44 (.bool true)) 45 (.int .i64 4)
  have F4:Hid (∀h2,Z V1 g 90 h2->Z V2 g 90 ((h2.set 44 (.bool true)).set 45 (.int .i64 4))):=Y (fun h2 hM=>by rw[hV2];exact(hM.set 44 _).set 45 _);change Code.wp _ _ _ _ ((V1.setCell ⟨g,44,none⟩ (.bool true)).setCell ⟨g,45,none⟩ (.int .i64 4));rw[<-hV2];clear hV2;have e43:=B2.K 43 (by rw[List.getElem?_set_ne I,List.getElem?_set_ne I];exact m43);have e45:=B2.K 45 (by rw[List.getElem?_set_self (by rw[List.length_set,hM];omega)]);have g45:=B2.frozen 45;clear L44 L45 f44 f45;cases hd
  case' false=>have FF:=Y (FN.out 4 J V2 F4.out G2)
  case' true=>
   have FF:=Y (FN.out 5 J (V2.setCell ⟨g,45,none⟩ (.int .i64 5)) (fun h2 hM=>by
    have:=(F4.out h2 hM).set 45 (.int .i64 5);rwa[List.set_set]at this) (uq G2 45 (.int .i64 5)))
  all_goals
   clear FN F4 G2 B2;go_wp2_with fail;go_ret;exact FF.out
end Go.Proofs.YthnbcmlnpdabhaaGreat
