/-
  Layers 22 and 23,the reference:Draw,Servers,Tries.
-/
import Derived.Test.YthnbcmlnpdabhaaGreatILq
import Derived.Test.YthnbcmlnpdabhaaGreatKAq
import Derived.Test.YthnbcmlnpdabhaaGreatHYq
namespace Go.Proofs.YthnbcmlnpdabhaaGreat
open _root_.Go.Proofs.Tryz
set_option maxHeartbeats 8000000
open Go.RowKit
set_option maxRecDepth 100000
set_option linter.unusedVariables false
set_option linter.unusedSimpArgs false
variable {A:Option Addr} {c:Nat} {w:World}
def QJ(w:World)(g:Nat)(A:Option Addr)(c:Nat)(L:Lt):Prop:=F w g 86 [.slice A L.ds.length c,.int .i64 L.us]/\MW w A L.ds/\(0<L.ds.length->∀b,A=some b->b.block≠g)
def abm(g:Nat)(A:Option Addr)(c:Nat)(r:Int×Lt)(w:World)(e:Ending)(w':World):Prop:=e= .returned (.int .i64 r.1)/\QJ w' g A c r.2/\w.grownBy w' (some g)
theorem Pk(g:Nat)(A:Option Addr)(c:Nat)(L:Lt)(n:Int)(w:World)(h:QJ w g A c L)(hn:0<n)(hn2:n<=100000)(hu:L.us<=1000000000):
  Calls prog 42 #[.pointer (some ⟨g,0,none⟩),.int .i64 n] w (abm g A c (xG L n) w):=by
 obtain⟨Z,hD,hA⟩:=h;have c0:=Z.M 0 J;have c1:=Z.M 1 J;have f1:=Z.frozen 1;have hn':¬n<1:=I;have hu0:(0:Int)<=L.us:=I;have hwn:IntKind.u64.wrap n=n:=gV;have hn0:¬n=0:=I;have DV:=Y (Fq L.get n hn hn2);have FIN:Hid (abm g A c (xG L n) w (.returned (.int .i64 (IntKind.u64.wrap L.get%n))) (w.setCell ⟨g,1,none⟩ (.int .i64 ((L.us:Int)+1)))):=Y (by
  have e:(.int .i64 ((L.us:Int)+1))=Value.int .i64 ((L.us+1:Nat):Int):=mo;rw[e];have hg:w.grownBy (w.setCell ⟨g,1,none⟩ (.int .i64 ((L.us+1:Nat):Int))) (some g):=ix;refine⟨J,⟨Z.set 1 _,fun hp=>?_,hA⟩,hg⟩;obtain⟨b,off,U,X,h3⟩:=hD hp;refine⟨b,off,U,by simpa[World.setCell]using X,fun j v hv=>?_⟩;rw[<-h3 j v hv];exact y8 hg ⟨b,off+j,none⟩ X fG)
 by_cases aB:L.us<L.ds.length
 case pos=>have e1:L.get=L.ds[L.us]:=m6;rw[e1]at DV FIN;obtain⟨b,off,rfl,hbl,hr⟩:=hD I;have cd:w.cell? ⟨b,off+L.us,none⟩=some (.int .i64 L.ds[L.us]):=hr L.us _ (by simp[PV,aB]);have h1:(L.us:Int)<L.ds.length:=I;clear Z hD e1 hr hn hn2 hA;generalize L.ds[L.us]=d at*;go_enter func42,ntmps42;go_wp2_with fail;go_ret;rw[DV.out];exact FIN.out
 case neg=>have e1:L.get=L.us:=m8;rw[e1]at DV FIN;have h1:¬(L.us:Int)<L.ds.length:=I;have hwu:IntKind.u64.wrap (L.us:Int)=L.us:=gV;have DV2:Hid (wrap64 ((L.us:Int)%n)=(L.us:Int)%n):=Y cT;rw[hwu]at FIN;clear Z hD e1 hn hn2 hwu DV hA;go_enter func42,ntmps42;go_wp2_with fail;go_ret;rw[DV2.out];exact FIN.out
theorem acX(A:Option Addr)(n c:Nat)(v2 v3:Value)(r:Rs)(W:World):(Instr.field 69 (.agg (Fa (.slice A n c) v2 v3 r).toArray) 0).run prog W= .ok (.slice A n c) W:=by kernel_rfl
theorem abn(v1 v2 v3:Value)(r:Rs)(W:World):(Instr.field 69 (.agg (Fa v1 v2 v3 r).toArray) 5).run prog W= .ok (.int .i64 r.uG) W:=by kernel_rfl
theorem VI(r:Rs)(turn:Int)(k:Nat)(z:k<(uJ r).sv.length):∃U X,(xQ r turn)[k]'U=(uJ r).sv[(k+zx r turn)% (uJ r).sv.length]'X:=by
 have ht:=KJ r turn;refine⟨by rw[BK];exact z,Nat.mod_lt _ I,?_⟩;unfold xQ;by_cases h:k<(uJ r).sv.length-zx r turn
 ·have e:(k+zx r turn)% (uJ r).sv.length=k+zx r turn:=Nat.mod_eq_of_lt I;rw[List.getElem_append_left aA,List.getElem_drop];simp only[e,Nat.add_comm]
 ·
  have e:(k+zx r turn)% (uJ r).sv.length=k-((uJ r).sv.length-zx r turn):=by rw[Nat.mod_eq_sub_mod I,Nat.mod_eq_of_lt I];omega
  rw[List.getElem_append_right aA,List.getElem_take];simp only[e,List.length_drop]
theorem QK(cs:List Value)(r:Rs)(turn:Int)(w:World)(h:Dh w cs r):Calls prog 95 #[.agg cs.toArray,.int .i64 turn] w (Vn (xQ r turn) w):=by
 have hcl:=h.len;have d6:cs[6]?=some (.bool r.ro):=by obtain⟨A1,c1,A2,c2,A3,c3,rfl,_⟩:=h;rfl
 have HX:Below w.heap.size w (w.alloc (.cells cs.toArray 69)):=gF;have afz:=F.new w 69 cs;have RV:=Y (DB cs r _ (h.G HX));obtain⟨hn0,hn3⟩:=Gt r;have hat:=KJ r turn;have HT:Hid (zx r turn=if r.ro then(IntKind.u64.wrap turn% (uJ r).sv.length).toNat else 0):=nL;have SA:=Y (fun k z=>VI r turn k z);have hsl:=BK r turn;unfold WE at RV;clear h;obtain⟨hr,hhr⟩:=ao (uJ r);rw[hhr.out]at RV hn0 hn3 hat HT SA hsl;generalize zx r turn=uG at*;obtain⟨T,hT⟩:=ao (xQ r turn);rw[hT.out]at SA hsl⊢;go_enter func95,ntmps95;go_wp2_with(refine ur (.load 69 (.tmp 2)) J ?_;go_must(refine uu J _ _ J w.heap.size 0 J afz 10 I _ underlying69 J AK cs (wP I) ?_));refine RV.out.mono ?_;rintro _ w1 ⟨A,c,A2,n2,c2,A3,n3,c3,rfl,hO,b1⟩;have H1:=um HX HX.size b1;have X1:=afz.G b1 afz.lt;have RF:=Y (fun V=>acX A hr.sv.length c (.slice A2 n2 c2) (.slice A3 n3 c3) hr V);obtain⟨RL,hRL⟩:∃RL:List Value,RL=Fa (.slice A hr.sv.length c) (.slice A2 n2 c2) (.slice A3 n3 c3) hr:=gG;rw[<-hRL]at RF⊢;have HO:=Y hO;clear RV b1 HX afz hRL hO;generalize K:hr.sv=S at*;have hwn:IntKind.u64.wrap (S.length:Int)=S.length:=gV;have DV:=Y (Fq turn S.length I I);have axV:¬(S.length:Int)=0:=I;go_wp2_with(refine ur (.field 69 (.tmp 11) 0) J ?_;go_must(refine Da J 69 (.tmp 11) 0 J J (RF.out _) ?_));go_loopw[7,8] (fun kv iv wr=>∃k:Nat,k<=S.length/\iv= .int .i64 k/\zE wr w1.heap.size kv (T.take k)/\al w1 wr) (fun _ iv _=>S.length-(intOf iv).toNat)
 case atStart=>exact⟨0,Nat.zero_le _,J,uY.nil _ _ _ _ _,Below.refl _ _⟩
 obtain⟨k,z,rfl,ho,hB⟩:=hrel;by_cases aB:k<S.length
 case neg=>have h1:¬(k:Int)<S.length:=I;go_wp2_with fail;go_ret;refine⟨_,J,?_,um H1 H1.size hB⟩;rw[List.take_of_length_le I]at ho;exact uY.zero ho
 have h1:(k:Int)<S.length:=I;obtain⟨Ak,ck,hv⟩:=ho.form;subst hv;have hkl:(T.take k).length=k:=by rw[List.length_take];omega
 have e6:=(X1.G hB X1.lt).M 6 d6;have HOO:=Y ho;clear ho;rw[hkl];go_upto_if 22 with fail;go_cut[9] (fun v wx=>v= .int .i64 (((k+uG)%S.length:Nat):Int)/\wx=wr)
 case first=>
  cases hro:r.ro with
  |true=>
   rw[hro]at HT e6;clear hro;have hs:IntKind.u64.wrap turn% (S.length:Int)=(uG:Int):=by exact rG
   have hs':=Y hs;clear hs;go_wp2_with fail;go_meet
   case rel=>refine⟨?_,J⟩;rw[DV.out,hs'.out];have e1:wrap64 ((k:Int)+(uG:Int))=(k:Int)+uG:=IntWalk.wrap64_in _ ⟨I,I⟩;rw[e1,Int.tmod_eq_emod_of_nonneg I];rfl
  |false=>
   rw[hro]at HT e6;clear hro;go_wp2_with fail;go_meet
   case rel=>have X:=HT.out;simp only[Bool.false_eq_true,if_false]at X;exact⟨by rw[X,Nat.add_zero,Nat.mod_eq_of_lt aB],J⟩
 obtain⟨rfl,hwc⟩:=hcut;rw[hwc];clear hwc e6;obtain⟨e1,e2,e3⟩:=SA.out k aB;obtain⟨gs,hA,hgs,aij⟩:=uY.uG (fun _ _ h=>h.len) HO.out I;obtain⟨es,hes,hce,h2⟩:=aij ((k+uG)%S.length) e2;generalize(k+uG)%S.length=j at*;have hes:=uD hes hB hgs;rw[Nat.zero_add]at hes;have hel:es.length=18:=jI;have agj:∀v∈es,v.oneCell'=true:=jh;have HI:Hid (CY es T[k]):=Y ⟨by rw[e3];exact hce,by rw[e3];exact h2⟩;subst hA;have K3:Below wr.heap.size wr (wr.alloc (.cells es.toArray 24)):=gF;have O3:=uY.G (R':=CY) HOO.out K3 (fun _ _ h=>h);have N3:=HOO.out.ne (Nat.le_refl _);have hj':(j:Int)<S.length:=I;have hkk:(T.take k).length+1<=200:=I;have HKL:=Y hkl;clear hce h2 aij HOO DV HT e3 SA;go_wp2_with(first
  |(refine ur (.load 24 (.tmp 36)) rfl ?_;go_must(refine wj rfl 24 (.tmp 36) rfl gs (j*18) rfl es hes _ underlying24 rfl eD ?_))
  |(refine ur (.buildSlice 65 1 #[(0,.tmp 37)]) rfl ?_;go_must(refine CU rfl 65 24 _ 18 32 underlying65 zr az az (.tmp 37) rfl es rfl hel ?_))
  |(at_builtin;go_must(refine yu _ rfl _ _ 65 rfl 24 _ 18 32 underlying65 zr (by kernel_rfl) az w1.heap.size _ (T.take k) (by rw[hkl];rfl) O3 aT wr.heap.size es T[k] rfl (F.new _ _ _) N3 hel agj HI.out aK I ?_)))
 intro v' w4 O4 g4;have H4:=(um hB hB.size K3).grown g4 aT (by have:=O3.base;rwa[HKL.out]at this);clear g4 K3 O3 N3;go_wp2_with fail;go_roundw
 case rel=>exact⟨k+1,I,gp,O4,H4⟩
 case measure=>simp[intOf];omega
theorem VJ(cs:List Value)(r:Rs)(turn:Int)(w:World)(h:Dh w cs r):Calls prog 41 #[.agg cs.toArray,.int .i64 turn] w (Vn (vP r turn) w):=by
 have hcl:=h.len;have HX:Below w.heap.size w (w.alloc (.cells cs.toArray 69)):=gF;have afz:=F.new w 69 cs;have RV:=Y (fun V (hV:al w V)=>DB cs r V (h.G hV));have SV:=Y (fun V (hV:al w V)=>QK cs r turn V (h.G hV));have HT:Hid (vP r turn=xr (xQ r turn) (uJ r).uG.toNat):=nL;have hsl:=BK r turn;have hs3:=(Gt r).2;obtain⟨ha1,ha2⟩:=Vp r;obtain⟨na,hna⟩:∃na:Nat,(uJ r).uG=na:=⟨(uJ r).uG.toNat,I⟩;rw[hna]at HT ha1 ha2;rw[Int.toNat_natCast]at HT;rw[<-hsl]at hs3;unfold WE at RV;have HNA:=Y hna;clear h hna hsl;generalize xQ r turn=S at*;obtain⟨T,hT⟩:=ao (vP r turn);rw[hT.out]at HT⊢;go_enter func41,ntmps41;go_wp2_with fail;go_loopw[5,6] (fun kv iv wr=>∃k:Nat,k<=na/\iv= .int .i64 k/\zE wr w.heap.size kv (xr S k)/\al w wr/\F wr w.heap.size 69 cs) (fun _ iv _=>na-(intOf iv).toNat)
 case atStart=>exact⟨0,Nat.zero_le _,J,uY.nil _ _ _ _ _,HX,afz⟩
 clear HX afz;obtain⟨k,z,rfl,ho,hB,afz⟩:=hrel;obtain⟨Ak,ck,hv⟩:=ho.form;subst hv;have HOO:=Y ho;clear ho;have hb3:k*S.length<=15:=Nat.le_trans (Nat.mul_le_mul (by omega:k<=5) hs3) az;have hrb:(xr S k).length<=15:=oh;clear hb3;have R1:=Y (RV.out wr hB);go_wp2_with(refine ur (.load 69 (.tmp 2)) J ?_;go_must(refine uu J _ _ J w.heap.size 0 J afz 10 I _ underlying69 J AK cs (wP I) ?_));refine R1.out.mono ?_;rintro _ w1 ⟨A,c,A2,n2,c2,A3,n3,c3,rfl,_,b1⟩;have X1:=afz.G b1 afz.lt;have H1:=um hB hB.size b1;have O1:=uY.G (R':=CY) HOO.out b1 (fun _ _ h=>h);have RF:Hid (∀V,(Instr.field 69 (.agg (Fa (.slice A (uJ r).sv.length c) (.slice A2 n2 c2) (.slice A3 n3 c3) (uJ r)).toArray) 5).run prog V= .ok (.int .i64 na) V):=Y (fun V=>by rw[<-HNA.out];exact abn ..);obtain⟨RL,hRL⟩:∃RL:List Value,RL=Fa (.slice A (uJ r).sv.length c) (.slice A2 n2 c2) (.slice A3 n3 c3) (uJ r):=gG;rw[<-hRL]at RF⊢;clear hRL b1 afz hB R1 HOO;have S1:=Y (SV.out w1 H1);by_cases aB:k<na
 case neg=>have h1:¬(k:Int)<na:=I;go_wp2_with(refine ur (.field 69 (.tmp 9) 5) J ?_;go_must(refine Da J 69 (.tmp 9) 5 J J (RF.out _) ?_));go_ret;refine⟨_,J,?_,H1⟩;rw[HT.out,show na=k by omega];exact uY.zero O1
 have h1:(k:Int)<na:=I;go_wp2_with(first
  |(refine ur (.field 69 (.tmp 9) 5) rfl ?_;go_must(refine Da rfl 69 (.tmp 9) 5 rfl rfl (RF.out _) ?_))
  |(refine ur (.load 69 (.tmp 2)) rfl ?_;go_must(refine uu rfl _ _ rfl w.heap.size 0 rfl X1 10 I _ underlying69 rfl AK cs (wP I) ?_)))
 refine S1.out.mono ?_;rintro _ w2 ⟨vS,rfl,oS,b2⟩;have X2:=X1.G b2 X1.lt;have H2:=um H1 H1.size b2;have O2:=uY.G (R':=CY) O1 b2 (fun _ _ h=>h);obtain⟨AS,cS,hv⟩:=oS.form;subst hv;have W1:=zE.own (l:=xr S k) O2;have W2:=zE.own (l:=S) oS;have hi1:=zE.ip (l:=xr S k) O2;have hi2:=zE.ip (l:=S) oS;have HR:Hid (0<S.length->∃b off,AS=some ⟨b,off,none⟩/\w2.rangeAt b off (BT S)):=Y (fun hp=>by
  obtain⟨g,L,hA,Z,hL,_⟩:=AY W2 hp (AM S hi2);refine⟨g,0,hA,fun j v hv=>?_⟩;rw[Nat.zero_add];refine Z.M j ?_;rw[<-hL]at hv;rw[List.getElem?_take]at hv;split at hv
  ·exact hv
  ·
   cases hv)
 have OB:=Y O2.base;have HK:=Y (fun w' (hg:w2.grownBy w' (Value.slice Ak (xr S k).length ck).ownBlock)=>O2.C9 X2 az hg);clear S1 b2 X1 H1 O1 RF oS O2;go_wp2_with(at_builtin;go_must(refine zS w2 J _ _ 65 J 24 _ 18 32 underlying65 zr (by kernel_rfl) az w.heap.size _ (xr S k).length _ J W1 H2.size AS S.length cS (BT S) J HR.out (AM S hi2) (ME S) aK I _ J ?_));intro A' c' w3 ho' hg;have X3:=HK.out w3 hg;have H3:=H2.grown hg H2.size OB.out;have O3:zE w3 w.heap.size (.slice A' ((xr S k).length+S.length) c') (xr S (k+1)):=by have e:xr S (k+1)=xr S k++S:=rfl;rw[e];refine zE.mk ?_ (fun a ha=>(List.mem_append.1 ha).elim (hi1 a) (hi2 a));rw[List.length_append,IM];exact ho'
 clear HK OB HR ho' hg W1 W2 X2 H2;go_wp2_with fail;go_roundw
 case rel=>exact⟨k+1,I,gp,O3,H3,X3⟩
 case measure=>simp[intOf];omega
def Ef(R Q ms qs es ds:List Value):List Value:=R++(Q++(ms++(qs++(es++ds))))
section
variable {R Q ms qs es ds:List Value}
theorem acY(hR:R.length=10)(hQ:Q.length=3)(hm:ms.length=6)(hq:qs.length=23)(he:es.length=4)(i:Nat)(hi:i<10):(Ef R Q ms qs es ds)[i]?=R[i]?:=by unfold Ef;rw[List.getElem?_append_left I]
theorem acZ(hR:R.length=10)(hQ:Q.length=3)(hm:ms.length=6)(hq:qs.length=23)(he:es.length=4):((Ef R Q ms qs es ds).drop 10).take 3=Q:=by
 unfold Ef;rw[show(10:Nat)=R.length by omega,List.drop_left];exact List.take_left' hQ
theorem JD(hR:R.length=10)(hQ:Q.length=3)(hm:ms.length=6)(hq:qs.length=23)(he:es.length=4)(i:Nat)(hi:i<6):(Ef R Q ms qs es ds)[13+i]?=ms[i]?:=by
 unfold Ef;rw[List.getElem?_append_right I,List.getElem?_append_right I,List.getElem?_append_left I];congr 1;omega
theorem QL(hR:R.length=10)(hQ:Q.length=3)(hm:ms.length=6)(hq:qs.length=23)(he:es.length=4):(Ef R Q ms qs es ds).drop 19=qs++(es++ds):=by
 unfold Ef;rw[show(19:Nat)=R.length+(Q.length+ms.length)by omega,<-List.drop_drop,List.drop_left,<-List.drop_drop,List.drop_left,List.drop_left]
theorem afW(hR:R.length=10)(hQ:Q.length=3)(hm:ms.length=6)(hq:qs.length=23)(he:es.length=4):((Ef R Q ms qs es ds).drop 19).take 23=qs:=by rw[QL hR hQ hm hq he];exact List.take_left' hq
theorem ac0(hR:R.length=10)(hQ:Q.length=3)(hm:ms.length=6)(hq:qs.length=23)(he:es.length=4)(i:Nat)(hi:i<4):(Ef R Q ms qs es ds)[42+i]?=es[i]?:=by
 have e:(Ef R Q ms qs es ds)[42+i]?=((Ef R Q ms qs es ds).drop 19)[23+i]?:=by rw[List.getElem?_drop];congr 1;omega
 rw[e,QL hR hQ hm hq he,List.getElem?_append_right I,List.getElem?_append_left I];congr 1;omega
theorem afr(hR:R.length=10)(hQ:Q.length=3)(hm:ms.length=6)(hq:qs.length=23)(he:es.length=4):(Ef R Q ms qs es ds).drop 46=ds:=by
 rw[show(46:Nat)=19+27 from J,<-List.drop_drop,QL hR hQ hm hq he,show(27:Nat)=qs.length+es.length by omega,<-List.drop_drop,List.drop_left,List.drop_left]
theorem JE(hR:R.length=10)(hQ:Q.length=3)(hm:ms.length=6)(hq:qs.length=23)(he:es.length=4):(Ef R Q ms qs es ds).length=46+ds.length:=by unfold Ef;simp only[List.length_append];omega
theorem KM(hR:R.length=10)(hQ:Q.length=3)(hm:ms.length=6)(hq:qs.length=23)(he:es.length=4)(i:Nat)(hi:i<6)(v:Value):(Ef R Q ms qs es ds).set (13+i) v=Ef R Q (ms.set i v) qs es ds:=by
 unfold Ef;rw[List.set_append_right _ _ I,List.set_append_right _ _ I,List.set_append_left _ _ I,show 13+i-R.length-Q.length=i by omega]
theorem GI(hR:R.length=10)(hQ:Q.length=3)(hm:ms.length=6)(hq:qs.length=23)(he:es.length=4)(i:Nat)(hi:i<4)(v:Value):(Ef R Q ms qs es ds).set (42+i) v=Ef R Q ms qs (es.set i v) ds:=by
 unfold Ef;rw[List.set_append_right _ _ I,List.set_append_right _ _ I,List.set_append_right _ _ I,List.set_append_right _ _ I,List.set_append_left _ _ I,show 42+i-R.length-Q.length-ms.length-qs.length=i by omega]
theorem aeC(hR:R.length=10)(hQ:Q.length=3)(hm:ms.length=6)(hq:qs.length=23)(he:es.length=4):(Ef R Q ms qs es ds).take 19=R++(Q++ms):=by
 unfold Ef;rw[<-List.append_assoc,<-List.append_assoc,List.append_assoc R Q ms];exact List.take_left' dF
theorem ac1(hR:R.length=10)(hQ:Q.length=3)(hm:ms.length=6)(hq:qs.length=23)(he:es.length=4)(qs':List Value)(hq':qs'.length=23):(Ef R Q ms qs es ds).take 19++qs'++(Ef R Q ms qs es ds).drop (19+qs'.length)=Ef R Q ms qs' es ds:=by
 rw[aeC hR hQ hm hq he,hq',<-List.drop_drop,QL hR hQ hm hq he,List.drop_left' hq];simp[Ef]
theorem ac2(hR:R.length=10)(hQ:Q.length=3)(hm:ms.length=6)(hq:qs.length=23)(he:es.length=4)(ds':List Value)(hd:ds.length=14)(hd':ds'.length=14):(Ef R Q ms qs es ds).take 46++ds'++(Ef R Q ms qs es ds).drop (46+ds'.length)=Ef R Q ms qs es ds':=by
 rw[List.drop_of_length_le (by rw[JE hR hQ hm hq he];omega),List.append_nil];have e:(Ef R Q ms qs es ds).take 46=R++(Q++(ms++(qs++es))):=by unfold Ef;rw[<-List.append_assoc,<-List.append_assoc,<-List.append_assoc,<-List.append_assoc];rw[List.take_left' dF];simp only[List.append_assoc]
 rw[e];simp[Ef]
end
def YP(gl:Nat)(vt:Value)(x:Xc):List Value:=[.pointer (some ⟨gl,0,none⟩),vt,.int .i64 x.k,.int .i64 x.lg,.int .i64 x.left,.int .i64 x.uV]
def rxE(dp:Option Nat)(x:Xc):List Value:=[GR dp,.bool x.hard,.bool x.done,.int .i64 x.vd]
def ac3(A:Option Addr)(c:Nat)(q:Qn)(qs:List Value):Prop:=qs=EP\/∃y:Qy,y.sv.ip.length=16/\y.q=q/\qs=xY (.slice A q.name.length c) y
theorem ac3.ql{q:Qn}{qs:List Value}(h:ac3 A c q qs):qs.length=23:=by
 rcases h with rfl|⟨y,U,_,rfl⟩
 ·rfl
 ·exact wU U
structure Cv (w0 w:World) (g gl:Nat) (A:Option Addr) (c:Nat) (As:Option Addr) (cd:Nat) (x:Xc) (L:Lt) (qs:List Value) (dp:Option Nat):Prop where
 b:∃R vt ds,F w g 90 (Ef R (qC (.slice A x.q.name.length c) x.q) (YP gl vt x) qs (rxE dp x) ds)/\R.length=10/\R[4]?=some (.int .i64 x.cl)/\R[7]?=some (.bool x.vc)/\R[9]?=some (.bool x.ed)/\zE w 0 vt x.tr/\vf w ds x.yr
 l:F w gl 86 [.slice As L.ds.length cd,.int .i64 L.us]
 nm:xE w0 A c x.q.name
 nl:vB x.q.name<=400
 dr:MW w0 As L.ds
 bw:al w0 w
 lo:w0.heap.size<=g
 ll:w0.heap.size<=gl
 qk:ac3 A c x.q qs
section
variable {w0 w w':World} {g gl:Nat} {A As:Option Addr} {c cd:Nat} {x x':Xc} {L:Lt} {qs qs':List Value} {dp dp':Option Nat}
theorem Cv.ql(h:Cv w0 w g gl A c As cd x L qs dp):qs.length=23:=h.qk.ql
theorem Cv.lot(h:Cv w0 w g gl A c As cd x L qs dp):QJ w gl As cd L:=by
 refine⟨h.l,fun hp=>?_,fun hp b Z=>?_⟩
 ·obtain⟨b,off,U,X,h3⟩:=h.dr hp;exact⟨b,off,U,Nat.lt_of_lt_of_le X h.bw.size,uD h3 h.bw X⟩
 ·obtain⟨b',off,U,X,h3⟩:=h.dr hp;rw[U]at Z;injection Z with Z;subst Z;have:=h.ll;show b'≠gl;omega
theorem Cv.ne(h:Cv w0 w g gl A c As cd x L qs dp):g≠gl:=by
 obtain⟨_,_,_,Z,_⟩:=h.b;exact yg Z h.l az
theorem Cv.fr{S:Nat->Prop}(h:Cv w0 w g gl A c As cd x L qs dp)(k:Fr S w w')(hg:¬S g)(hl:¬S gl)(K:∀i,S i->w0.heap.size<=i):Cv w0 w' g gl A c As cd x L qs dp:=by
 obtain⟨R,vt,ds,Z,U,X,h3,h4,h5,h6⟩:=h.b;exact⟨⟨R,vt,ds,k.vj Z hg,U,X,h3,h4,k.Jv h5 cQ,k.yr h6⟩,k.vj h.l hl,h.nm,h.nl,h.dr,k.zq h.bw h.bw.size (fun i hi hs=>by have:=K i hs;omega),h.lo,h.ll,h.qk⟩
theorem Cv.G(h:Cv w0 w g gl A c As cd x L qs dp)(k:al w w'):Cv w0 w' g gl A c As cd x L qs dp:=h.fr (S:=fun _=>False) (Fr.G k) (fun h=>h) (fun h=>h) (fun _ h=>h.elim)
theorem Cv.put(h:Cv w0 w g gl A c As cd x L qs dp)(hg:w.grownBy w' (some g))(e1:x'.q=x.q)(e2:x'.tr=x.tr)(e3:x'.cl=x.cl)(e4:x'.vc=x.vc)(e5:x'.ed=x.ed)(hq:ac3 A c x.q qs')
  (Z:∀R vt ds,R.length=10->ds.length=14->F w g 90 (Ef R (qC (.slice A x.q.name.length c) x.q) (YP gl vt x) qs (rxE dp x) ds)->vf w' ds x.yr->∃ds',F w' g 90 (Ef R (qC (.slice A x.q.name.length c) x.q) (YP gl vt x') qs' (rxE dp' x') ds')/\vf w' ds' x'.yr):Cv w0 w' g gl A c As cd x' L qs' dp':=by
 obtain⟨R,vt,ds,hb0,U,X,h3,h4,h5,h6⟩:=h.b;have fr:Fr (fun i=>i=g) w w':=Fr.grown hg hb0 (.inr (.inr (.inr (.inr (.inr (.inl J)))))) J;obtain⟨ds',k1,k2⟩:=Z R vt ds U h6.len hb0 (fr.yr h6);exact⟨⟨R,vt,ds',by rw[e1];exact k1,U,by rw[e3];exact X,by rw[e4];exact h3,by rw[e5];exact h4,by rw[e2];exact fr.Jv h5 cQ,k2⟩,fr.vj h.l (fun e=>h.ne e.symm),by rw[e1];exact h.nm,by rw[e1];exact h.nl,h.dr,fr.zq h.bw h.bw.size (fun i hi hs=>by have:=h.lo;omega),h.lo,h.ll,by rw[e1];exact hq⟩
theorem Cv.cells(h:Cv w0 w g gl A c As cd x L qs dp):∃ul vt ds,F w g 90 ul/\ul.length=60/\ul[4]?=some (.int .i64 x.cl)/\ul[7]?=some (.bool x.vc)/\ul[9]?=some (.bool x.ed)/\(ul.drop 10).take 3=qC (.slice A x.q.name.length c) x.q/\ul[13]?=some (.pointer (some ⟨gl,0,none⟩))/\ul[14]?=some vt/\ul[15]?=some (.int .i64 x.k)/\ul[16]?=some (.int .i64 x.lg)/\ul[17]?=some (.int .i64 x.left)/\ul[18]?=some (.int .i64 x.uV)/\(ul.drop 19).take 23=qs/\ul[42]?=some (GR dp)/\ul[43]?=some (.bool x.hard)/\ul[44]?=some (.bool x.done)/\ul[45]?=some (.int .i64 x.vd)/\ul.drop 46=ds/\zE w 0 vt x.tr/\vf w ds x.yr:=by
 obtain⟨R,vt,ds,Z,U,X,h3,h4,h5,h6⟩:=h.b;have hq:=h.ql;refine⟨_,vt,ds,Z,by rw[JE U J J hq J,h6.len],by rw[acY U J J hq J 4 I];exact X,by rw[acY U J J hq J 7 I];exact h3,by rw[acY U J J hq J 9 I];exact h4,acZ U J J hq J,JD U J J hq J 0 I,JD U J J hq J 1 I,JD U J J hq J 2 I,JD U J J hq J 3 I,JD U J J hq J 4 I,JD U J J hq J 5 I,afW U J J hq J,ac0 U J J hq J 0 I,ac0 U J J hq J 1 I,ac0 U J J hq J 2 I,ac0 U J J hq J 3 I,afr U J J hq J,h5,h6⟩
theorem Cv.afs(h:Cv w0 w g gl A c As cd x L qs dp)(i:Nat)(hi:i<6)(v:Value)(hw:∀ul,F w g 90 ul->F w' g 90 (ul.set (13+i) v))(hg:w.grownBy w' (some g))(e1:x'.q=x.q)(e2:x'.tr=x.tr)(e3:x'.cl=x.cl)(e4:x'.vc=x.vc)(e5:x'.ed=x.ed)(e6:x'.yr=x.yr)(hm:∀vt,(YP gl vt x).set i v=YP gl vt x')(he:rxE dp x'=rxE dp x):Cv w0 w' g gl A c As cd x' L qs dp:=
 h.put hg e1 e2 e3 e4 e5 h.qk (fun R vt ds hR hd Z hM=>⟨ds,by
  have:=hw _ Z;rwa[KM hR J J h.ql J i hi,hm,<-he]at this,by rw[e6];exact hM⟩)
theorem Cv.aeD(h:Cv w0 w g gl A c As cd x L qs dp)(i:Nat)(hi:i<4)(v:Value)(hw:∀ul,F w g 90 ul->F w' g 90 (ul.set (42+i) v))(hg:w.grownBy w' (some g))(e1:x'.q=x.q)(e2:x'.tr=x.tr)(e3:x'.cl=x.cl)(e4:x'.vc=x.vc)(e5:x'.ed=x.ed)(e6:x'.yr=x.yr)(hm:∀vt,YP gl vt x'=YP gl vt x)(he:(rxE dp x).set i v=rxE dp' x'):Cv w0 w' g gl A c As cd x' L qs dp':=
 h.put hg e1 e2 e3 e4 e5 h.qk (fun R vt ds hR hd Z hM=>⟨ds,by
  have:=hw _ Z;rwa[GI hR J J h.ql J i hi,he,<-hm]at this,by rw[e6];exact hM⟩)
end
structure zj (w0 w:World) (g gl:Nat) (A:Option Addr) (c:Nat) (As:Option Addr) (cd:Nat) (D:Option Nat) (x:Xc) (L:Lt):Prop where
 ok:x.ok
 s:∃qs,Cv w0 w g gl A c As cd x L qs D/\(x.done=false->x.yr=vU.zero/\qs=xY (.slice A x.q.name.length c) x.y/\(x.lg=2->∃gd,D=some gd/\w0.heap.size<=gd/\vZ w gd x.d A c))
def Df(w0:World)(g gl:Nat)(A:Option Addr)(c:Nat)(As:Option Addr)(cd:Nat)(r:XR)(w:World)(e:Ending)(w':World):Prop:=∃v D',e= .returned v/\vJ w.heap.size w' v r.2.2/\zj w0 w' g gl A c As cd D' r.1 r.2.1/\Fr (LS g gl) w w'
theorem ac4{x:Xc}(h:x.st)(L:Lt)(lg:Nat)(z:x.k<x.tr.length):(ym x L lg).1.ok:=by
 obtain⟨i1,i2,iq,isv⟩:=KK x L;have e0:=Tv h L;have hs:=h.leg L lg;have eN:(zw (yz x L)).1.st=0/\(zw (yz x L)).1.y=yz x L:=by unfold zw;rw[if_pos e0];exact⟨J,J⟩
 refine⟨fun _=>hs,fun _=>?_⟩;unfold ym;split
 ·exact⟨z,h.to1,Int.le_refl _,iq,isv,fun _=>⟨eN.1,eN.2,Ww _⟩⟩
 ·rename_i hn;exact⟨z,h.to1,Int.le_refl _,iq,isv,fun e=>absurd e hn⟩
section
variable {w0 w w':World} {g gl:Nat} {A As:Option Addr} {c cd:Nat} {x:Xc} {L L':Lt} {qs:List Value} {dp:Option Nat}
theorem Cv.drawn(h:Cv w0 w g gl A c As cd x L qs dp)(hg:w.grownBy w' (some gl))(hl:QJ w' gl As cd L')(hd:L'.ds=L.ds):Cv w0 w' g gl A c As cd x L' qs dp:=by
 have fr:Fr (fun i=>i=gl) w w':=Fr.grown hg h.l (.inr (.inr (.inr (.inl J)))) J;obtain⟨R,vt,ds,Z,U,X,h3,h4,h5,h6⟩:=h.b;exact⟨⟨R,vt,ds,fr.vj Z h.ne,U,X,h3,h4,fr.Jv h5 cQ,fr.yr h6⟩,hl.1,h.nm,h.nl,by rw[hd];exact h.dr,fr.zq h.bw h.bw.size (fun i hi hs=>by have:=h.ll;omega),h.lo,h.ll,h.qk⟩
end
theorem YF(fam hk port id:Int)(q:Qn)(b0 b1 b2 b3 b4 b5 b6 b7 b8 b9 b10 b11 b12 b13 b14 b15:UInt8)(A:Option Addr)(n c:Nat)(W:World):
  (Instr.build 30 #[(0,.agg (vG.cells ⟨fam,[b0,b1,b2,b3,b4,b5,b6,b7,b8,b9,b10,b11,b12,b13,b14,b15],hk⟩).toArray),(1,.int .i64 port),(2,.int .i64 id),(3,.agg #[.slice A n c,.int .i64 q.O,.int .i64 q.N])]).run prog W= .ok (.agg (xY (.slice A n c) ⟨⟨fam,[b0,b1,b2,b3,b4,b5,b6,b7,b8,b9,b10,b11,b12,b13,b14,b15],hk⟩,port,id,q⟩).toArray) W:=by
 kernel_rfl
theorem ac5(y:Qy)(h:y.sv.ip.length=16)(A:Option Addr)(n c:Nat)(W:World):
  (Instr.build 30 #[(0,.agg y.sv.cells.toArray),(1,.int .i64 y.port),(2,.int .i64 y.id),(3,.agg #[.slice A n c,.int .i64 y.q.O,.int .i64 y.q.N])]).run prog W= .ok (.agg (xY (.slice A n c) y).toArray) W:=by
 obtain⟨⟨fam,ip,hk⟩,port,id,q⟩:=y;have h':ip.length=16:=h;clear h;match ip,h' with
 |[b0,b1,b2,b3,b4,b5,b6,b7,b8,b9,b10,b11,b12,b13,b14,b15],_=>exact YF fam hk port id q b0 b1 b2 b3 b4 b5 b6 b7 b8 b9 b10 b11 b12 b13 b14 b15 A n c W
theorem EL(w0:World)(g gl:Nat)(A:Option Addr)(c:Nat)(As:Option Addr)(cd:Nat)(x:Xc)(L:Lt)(qs:List Value)(dp:Option Nat)(lg:Nat)(w:World)(h:Cv w0 w g gl A c As cd x L qs dp)(hst:x.st)(hdn:x.done=false)(hmz:x.yr=vU.zero)(z:x.k<x.tr.length)(hu:L.us<=999999990)(hsn:x.uV<=1000000)(hlg:lg<=2):
  Calls prog 147 #[.pointer (some ⟨g,0,none⟩),.int .i64 lg] w (Df w0 g gl A c As cd (ym x L lg) w):=by
 obtain⟨ul,vt,ds,Z,hM,m4,m7,m9,m10,m13,m14,m15,m16,m17,m18,m19,m42,m43,m44,m45,m46,hT,hm⟩:=h.cells;obtain⟨lcs,hlb⟩:∃lcs,F w gl 86 lcs:=⟨_,h.l⟩;have gne:=h.ne;have hgl:=Z.lt;obtain⟨p1,p2⟩:=Gm L (show(0:Int)<64512 by decide);obtain⟨q1,q2⟩:=Gm (xG L 64512).2 (show(0:Int)<65536 by decide);have D1:=Y (Pk gl As cd L 64512 w h.lot az az I);have D2:=Y (fun W h=>Pk gl As cd (xG L 64512).2 65536 W h az az eR);have a13:=Z.M 13 m13;have HH:=Lib.hid h;have HMZ:=Y hmz;obtain⟨i1,i2,iq,isv⟩:=KK x L;have HY:Hid (yz x L=⟨x.tr[x.k],1024+(xG L 64512).1,(xG (xG L 64512).2 65536).1,x.q⟩/\Hu L=(xG (xG L 64512).2 65536).2):=Y ⟨by unfold yz;rw[show x.tr.getD x.k vG.zero=x.tr[x.k]from by simp[z]],J⟩;clear h hT hm m10 m16 m17 m19 m42 m43 m44 m45 m46;go_enter func147,ntmps147;go_wp2_with fail;refine D1.out.mono ?_;rintro _ w1 ⟨rfl,l1,g1⟩;have H1:=Y (HH.out.drawn g1 l1 J);have hb1:=Z.grown g1 (by intro e;injection e with e;exact gne e);have b13:=hb1.M 13 m13;have D2':=Y (D2.out w1 l1);have F1:Hid (Fr (LS g gl) w w1):=Y (Fr.grown g1 hlb (.inr (.inr (.inr (.inl J)))) (.inr J));clear D1 D2 a13 g1 Z l1 HH;generalize(xG L 64512).1=pp at*;go_wp2_with fail;refine D2'.out.mono ?_;rintro _ w2 ⟨rfl,l2,g2⟩;have H2:=Y (H1.out.drawn g2 l2 J);have F2:Hid (Fr (LS g gl) w w2):=Y (F1.out.trans (Fr.grown g2 H1.out.l (.inr (.inr (.inr (.inl J)))) (.inr J)) (fun _ _ h=>h));clear D2' b13 g2 hb1 l2 H1 F1 hlb;generalize(xG (xG L 64512).2 65536).1=ii at*;obtain⟨R,vt2,ds2,hb2,r1,r2,r3,r4,r5,r6⟩:=H2.out.b;have hqs:=H2.out.ql;obtain⟨At,ct,hvt⟩:=r5.form;subst hvt;obtain⟨gt,hAt,hgt,aij⟩:=uY.uG (fun _ _ h=>h.len) r5 I;obtain⟨tc,hrg,htc,h2⟩:=aij x.k z;subst hAt;rw[htc]at hrg;clear aij htc;obtain⟨yy,hyy⟩:∃yy:Qy,yy=⟨x.tr[x.k],1024+pp,ii,x.q⟩:=gG;have hyi:yy.sv.ip.length=16:=by rw[hyy];exact h2
 have hql:(xY (.slice A x.q.name.length c) yy).length=23:=wU hyi;have hqo:∀v∈xY (.slice A x.q.name.length c) yy,v.oneCell'=true:=IG J;have RB:Hid (∀W,(Instr.build 30 #[(0,.agg x.tr[x.k].cells.toArray),(1,.int .i64 (1024+pp)),(2,.int .i64 ii),(3,.agg (qC (.slice A x.q.name.length c) x.q).toArray)]).run prog W= .ok (.agg (xY (.slice A x.q.name.length c) yy).toArray) W):=Y (fun W=>by rw[hyy];exact ac5 ⟨x.tr[x.k],1024+pp,ii,x.q⟩ h2 A _ c W);have HYY:Hid (yz x L=yy/\Hu L=(xG (xG L 64512).2 65536).2):=Y ⟨by rw[HY.out.1,hyy],HY.out.2⟩;have e1:Hid (x.tr[x.k].cells.length=18):=Y (vG.uT _ h2);have HYQ:Hid (yy.q=x.q):=Y (by rw[hyy]);have HYP:Hid (yy.port=1024+pp/\yy.id=ii/\yy.sv=x.tr[x.k]):=Y (by rw[hyy];exact⟨J,J,J⟩);clear hyy h2 HY;generalize hac:x.tr[x.k].cells=ac at*;clear hac;have LDS:Hid (∀(V:World) (ae:List Value),ae.length=60->ae[14]?=some (.slice (some ⟨gt,0,none⟩) x.tr.length ct)->ae[15]?=some (.int .i64 x.k)->(ae.drop 10).take 3=qC (.slice A x.q.name.length c) x.q->F V g 90 ae->V.rangeAt gt (0+x.k*18) ac->
   (Instr.loadAt 65 (.pointer (some ⟨g,14,none⟩))).run prog V= .ok (.slice (some ⟨gt,0,none⟩) x.tr.length ct) V/\(Instr.loadAt 3 (.pointer (some ⟨g,15,none⟩))).run prog V= .ok (.int .i64 x.k) V/\(Instr.loadAt 24 (.pointer (some ⟨gt,0+x.k*18,none⟩))).run prog V= .ok (.agg ac.toArray) V/\(Instr.loadAt 28 (.pointer (some ⟨g,10,none⟩))).run prog V= .ok (.agg (qC (.slice A x.q.name.length c) x.q).toArray) V):=Y (fun V ae n0 n1 n2 n3 hV hr=>
  ⟨uB underlying65 J (hV.M 14 n1),uB underlying3 J (hV.M 15 n2),yM hr underlying24 J eS,hV.wS 28 10 3 I _ underlying28 J xu _ n3⟩)
 have kd:Below w2.heap.size w2 w2.drew:=iQ;have hdl:=r6.len;have rl:=JE r1 (rfl:(qC (.slice A x.q.name.length c) x.q).length=3) (rfl:(YP gl (.slice (some ⟨gt,0,none⟩) x.tr.length ct) x).length=6) hqs (rfl:(rxE dp x).length=4) (ds:=ds2);have hS0:=LDS.out w2.drew _ (by rw[rl,hdl]) (JD r1 J J hqs J 1 I) (JD r1 J J hqs J 2 I) (acZ r1 J J hqs J) hb2.drew (uD hrg kd hgt);go_wp2_with fail;refine wp_region_held_drew (S:=fun V=>(Instr.loadAt 65 (.pointer (some ⟨g,14,none⟩))).run prog V= .ok (.slice (some ⟨gt,0,none⟩) x.tr.length ct) V/\(Instr.loadAt 3 (.pointer (some ⟨g,15,none⟩))).run prog V= .ok (.int .i64 x.k) V/\(Instr.loadAt 24 (.pointer (some ⟨gt,0+x.k*18,none⟩))).run prog V= .ok (.agg ac.toArray) V/\(Instr.loadAt 28 (.pointer (some ⟨g,10,none⟩))).run prog V= .ok (.agg (qC (.slice A x.q.name.length c) x.q).toArray) V) (by kernel_rfl) hS0 (fun K=>?_);refine uL K 20 [0,1,2,3,4,5,6,7,8,9,10,11,12,13,14,15,16,17,18,19] J (by kernel_rfl) (fun _ _ _ _ _ h=>h) J J ?_
 (refine aj (.pointer (some ⟨g,0,none⟩)) ?_;simp only[E])
 (refine aj (.pointer (some ⟨g,0,none⟩)) ?_;simp only[E])
 (refine aj (.pointer (some ⟨g,0,none⟩)) ?_;simp only[E])
 (refine aj (.pointer (some ⟨g,14,none⟩)) ?_;simp only[E])
 (refine ah _ J J (fun V hV=>(uP 65 (.tmp 25) ⟨g,14,none⟩ J J hV.1)) ?_;simp only[E])
 (refine aj (.pointer (some ⟨g,0,none⟩)) ?_;simp only[E])
 (refine aj (.pointer (some ⟨g,0,none⟩)) ?_;simp only[E])
 (refine aj (.pointer (some ⟨g,15,none⟩)) ?_;simp only[E])
 (refine ah _ J J (fun V hV=>(uP 3 (.tmp 29) ⟨g,15,none⟩ J J hV.2.1)) ?_;simp only[E])
 (refine ah (.pointer (some ⟨gt,0+x.k*18,none⟩)) J J (fun V hV=>(yV underlying65 Cf az (.tmp 26) (.tmp 30) J J J z V)) ?_;simp only[E])
 (refine ah _ J J (fun V hV=>(uP 24 (.tmp 31) ⟨gt,0+x.k*18,none⟩ J J hV.2.2.1)) ?_;simp only[E])
 (refine aj (.int .i64 (1024+pp)) ?_;simp only[E])
 (refine aj (.int .i64 ii) ?_;simp only[E])
 (refine aj (.pointer (some ⟨g,0,none⟩)) ?_;simp only[E])
 (refine aj (.pointer (some ⟨g,0,none⟩)) ?_;simp only[E])
 (refine aj (.pointer (some ⟨g,10,none⟩)) ?_;simp only[E])
 (refine ah _ J J (fun V hV=>(uP 28 (.tmp 37) ⟨g,10,none⟩ J J hV.2.2.2)) ?_;simp only[E])
 (refine ah (.agg (xY (.slice A x.q.name.length c) yy).toArray) J J (fun V hV=>(AZ 30 _ J #[(0,.agg ac.toArray),(1,.int .i64 (1024+pp)),(2,.int .i64 ii),(3,.agg (qC (.slice A x.q.name.length c) x.q).toArray)] (by kernel_rfl) (RB.out V))) ?_;simp only[E])
 (refine aj (.pointer (some ⟨g,0,none⟩)) ?_;simp only[E])
 (refine aj (.pointer (some ⟨g,19,none⟩)) ?_;simp only[E])
 simp only[vY];refine wu 20 none 30 (.tmp 41) (.tmp 39) (by kernel_rfl) J J J (by kernel_rfl) g 19 J (xY (.slice A x.q.name.length c) yy) J hb2.drew (by rw[rl,hql];omega) fJ hqo ?_;intro w3 B3 g3 s3;rw[ac1 r1 J J hqs J _ hql]at B3;have k3:w2.grownBy w3 (some g):=uC (yv (World.grownBy.refl w2 (some g))) g3 (.inl J);have alO:w3.rangeAt gt (0+x.k*18) ac:=by obtain⟨gc,hgb⟩:=uY.aa0 r5 I;exact fun j v hv=>by rw[<-hrg j v hv];exact y8 k3 ⟨gt,_,none⟩ hgt (by simp;exact yg hgb hb2 az)
 have rl3:=JE r1 (rfl:(qC (.slice A x.q.name.length c) x.q).length=3) (rfl:(YP gl (.slice (some ⟨gt,0,none⟩) x.tr.length ct) x).length=6) hql (rfl:(rxE dp x).length=4) (ds:=ds2);refine⟨LDS.out w3 _ (by rw[rl3,hdl]) (JD r1 J J hql J 1 I) (JD r1 J J hql J 2 I) (acZ r1 J J hql J) B3 alO,?_⟩;have d4:=B3.M 4 (by rw[acY r1 J J hql J 4 I];exact r2);have d18:=B3.M 18 (JD r1 J J hql J 5 I);have d16:=B3.M 16 (JD r1 J J hql J 3 I);have d17:=B3.M 17 (JD r1 J J hql J 4 I);have f16:=B3.frozen 16;have f17:=B3.frozen 17;have f18:=B3.frozen 18;obtain⟨x1,hx1⟩:∃x1,Hid (x1={x with y:=yy,lg:=lg,left:=x.cl,uV:=x.uV+1}):=gP;have F6:Hid (Fr (LS g gl) w (((w3.setCell ⟨g,16,none⟩ (.int .i64 lg)).setCell ⟨g,17,none⟩ (.int .i64 x.cl)).setCell ⟨g,18,none⟩ (.int .i64 ((x.uV:Int)+1)))):=Y (F2.out.trans (Fr.grown (S:=LS g gl) (uS (uS (uS k3 16 (.int .i64 lg)) 17 (.int .i64 x.cl)) 18 (.int .i64 ((x.uV:Int)+1))) hb2 (.inr (.inr (.inr (.inr (.inr (.inl J)))))) (.inl J)) (fun _ _ h=>h));have H6:Hid (Cv w0 (((w3.setCell ⟨g,16,none⟩ (.int .i64 lg)).setCell ⟨g,17,none⟩ (.int .i64 x.cl)).setCell ⟨g,18,none⟩ (.int .i64 ((x.uV:Int)+1))) g gl A c As cd x1 (xG (xG L 64512).2 65536).2 (xY (.slice A x.q.name.length c) yy) dp):=Y (by
  have C1:=B3.set 16 (.int .i64 lg);rw[KM r1 J J hql J 3 I]at C1;have C2:=C1.set 17 (.int .i64 x.cl);rw[KM r1 J J hql J 4 I]at C2;have C3:=C2.set 18 (.int .i64 ((x.uV+1:Nat):Int));rw[KM r1 J J hql J 5 I]at C3;have e:(.int .i64 ((x.uV:Int)+1))=Value.int .i64 ((x.uV+1:Nat):Int):=mo;have agc:=uS (uS (uS k3 16 (.int .i64 lg)) 17 (.int .i64 x.cl)) 18 (.int .i64 ((x.uV+1:Nat):Int));have fr:Fr (fun i=>i=g) w2 _:=Fr.grown agc hb2 (.inr (.inr (.inr (.inr (.inr (.inl J)))))) J;rw[e,hx1.out];exact⟨⟨R,_,ds2,C3,r1,r2,r3,r4,fr.Jv r5 cQ,fr.yr r6⟩,fr.vj H2.out.l (fun e=>gne e.symm),H2.out.nm,H2.out.nl,H2.out.dr,fr.zq H2.out.bw H2.out.bw.size (fun i hi hs=>by have:=H2.out.lo;omega),H2.out.lo,H2.out.ll,.inr ⟨yy,hyi,HYQ.out,J⟩⟩)
 clear alO k3 g3 B3 hrg LDS RB F2 H2 hb2 hS0 K kd r5 r6 s3 rl rl3 r2 r3 r4;simp only[E];refine wpAnyH_done (by kernel_rfl) ?_ _;have axG:(x.uV:Int)<=1000000:=I;have axF:(0:Int)<=x.uV:=I;generalize(x.uV:Int)=sn at*;go_upto_region 7 with fail;obtain⟨W6,hW6⟩:∃W6,W6=(((w3.setCell ⟨g,16,none⟩ (.int .i64 lg)).setCell ⟨g,17,none⟩ (.int .i64 x.cl)).setCell ⟨g,18,none⟩ (.int .i64 (sn+1))):=gG;rw[<-hW6]at F6 H6⊢;clear hW6 d4 d16 d17 d18 f16 f17 f18;have hxq:x1.q=x.q:=by rw[hx1.out]
 obtain⟨M6,vt6,ds6,hb6,hM6,n4,n7,n9,n10,n13,n14,n15,n16,n17,n18,n19,n42,n43,n44,n45,n46,hT6,hm6⟩:=H6.out.cells;have NM6:Hid (xE W6 A c x.q.name):=Y (by have:=H6.out.nm.G H6.out.bw;rwa[hxq]at this);have LXO:=Y (ac4 hst L lg z);clear hT6 hm6 n4 n7 n13 n14 n15 n16 n17 n18 n43 n44 n45 n46;by_cases X:lg=2
 case pos=>
  have HLX:Hid (ym x L lg=({x1 with d:=(zw yy).1},Hu L,(zw yy).2)):=Y (by
   unfold ym;rw[if_pos X,HYY.out.1,hx1.out,X])
  subst X;have RN:=Y (abk (xY (.slice A x.q.name.length c) yy) yy A c W6 ⟨by rw[HYQ.out],hyi,by rw[HYQ.out];exact NM6.out⟩);have hIQ:(xY (.slice A x.q.name.length c) yy).length=23:=hql;obtain⟨Q,hQ⟩:=ao (xY (.slice A x.q.name.length c) yy);rw[hQ.out]at RN n19 hIQ;clear hlg;go_wp2_with(refine ur (.load 30 (.tmp 66)) J ?_;go_must(refine uu J _ _ J g 19 J hb6 23 I _ underlying30 J Dz Q n19 ?_));refine RN.out.mono ?_;rintro _ w7 ⟨gd,v,rfl,hD,hO,b7,hgd⟩;have hb7:=hb6.G b7 hb6.lt;have H7:=Y (H6.out.G b7);have F7:Hid (Fr (LS g gl) w w7):=Y (F6.out.trans (Fr.G (S:=LS g gl) b7) (fun _ _ h=>h));have HD:=Y hD;have HO:=Y hO;have asq:w.heap.size<=W6.heap.size:=F6.out.size;have d42:=hb7.M 42 n42;have f42:=hb7.frozen 42;clear RN hb6 b7 hD hO F6;have FIN:Hid (Df w0 g gl A c As cd (ym x L 2) w (.returned v) (w7.setCell ⟨g,42,none⟩ (.pointer (some ⟨gd,0,none⟩)))):=Y (by
   have agc:=vp w7 g 42 (.pointer (some ⟨gd,0,none⟩));rw[HLX.out];have H8:Cv w0 (w7.setCell ⟨g,42,none⟩ (.pointer (some ⟨gd,0,none⟩))) g gl A c As cd {x1 with d:=(zw yy).1} (Hu L) (xY (.slice A x.q.name.length c) yy) (some gd):=by rw[HYY.out.2];exact H7.out.aeD 0 I (.pointer (some ⟨gd,0,none⟩)) (fun ul hM=>hM.set 42 _) agc J J J J J J (fun vt=>rfl) J
   refine⟨v,some gd,J,?_,⟨?_,⟨_,H8,fun _=>⟨?_,?_,fun _=>⟨gd,J,?_,?_⟩⟩⟩⟩,?_⟩
   ·exact(HO.out.grown agc I).mono I
   ·have:=LXO.out;rw[HLX.out]at this;exact this
   ·rw[hx1.out];exact HMZ.out
   ·rw[hx1.out]
   ·exact Nat.le_trans H6.out.bw.size hgd
   ·obtain⟨ds,k1,k2,k3⟩:=HD.out;exact⟨ds,k1.grown agc (by intro e;injection e with e;exact k1.Wu hb7 az e),k2,k3.UZ agc hb7 az az az⟩
   ·
    exact F7.out.trans (Fr.grown (S:=LS g gl) agc hb7 (.inr (.inr (.inr (.inr (.inr (.inl J)))))) (.inl J)) (fun _ _ h=>h))
  exact qS
 have HLX:Hid (ym x L lg=(x1,Hu L,[⟨1,yy.sv,yy.port,(vN (vW x.q yy.id (decide (lg=0)&&x.ed)) false).1⟩])):=Y (by
  rw[aa4 X,HYY.out.1,hx1.out])
 have ank:((lg:Int)==2)=false:=aA;have BU:=Y (fun V (hV:al W6 V) eb=>Ck A c x.q yy.id eb V (NM6.out.G hV));rw[HYP.out.2.1]at BU;have LQ:Hid (∀V,al W6 V->(Instr.loadAt 28 (.pointer (some ⟨g,10,none⟩))).run prog V= .ok (.agg #[.slice A x.q.name.length c,.int .i64 x.q.O,.int .i64 x.q.N]) V):=Y (fun V hV=>(hb6.G hV hb6.lt).wS 28 10 3 I _ underlying28 J xu _ (by rw[n10,hxq];rfl));have L9:Hid (∀V,al W6 V->(Instr.loadAt 4 (.pointer (some ⟨g,9,none⟩))).run prog V= .ok (.bool x.ed) V):=Y (fun V hV=>uB underlying4 J ((hb6.G hV hb6.lt).M 9 (by rw[n9,hx1.out])));obtain⟨eb,heb⟩:=ao ((decide (lg=0)&&x.ed));obtain⟨oct,akP⟩:=ao ((vN (vW x.q ii eb) false).1);have ayd:=hb6.lt;have ase:(M6.drop 19).take 18=yy.sv.cells:=by have:=congrArg (List.take 18) n19;rw[List.take_take]at this;rw[show(18:Nat)=min 18 23 from J,this];unfold xY;exact List.take_left' (vG.uT _ hyi)
 obtain⟨bz,hbz⟩:=ao ((((lg:Nat):Int)==0));have hez:Hid ((bz&&x.ed)=eb):=Y (by
  rw[<-heb.out,<-hbz.out];congr 1;rw[Bool.eq_iff_iff];simp)
 have RB:=Y (fun W=>KI 1 yy.sv yy.port oct hyi W);have HLo:=Dp (o:=⟨1,yy.sv,yy.port,oct⟩) hyi;have ON:=Y (fun W=>IK W ⟨1,yy.sv,yy.port,oct⟩ hyi);obtain⟨oc,hoc⟩:=ao (Gs ⟨1,yy.sv,yy.port,oct⟩);rw[hoc.out]at RB HLo ON;have haY:yy.sv.cells.length=18:=vG.uT _ hyi;obtain⟨ay,hay⟩:=ao yy.sv.cells;rw[hay.out]at RB ase haY;rw[HYP.out.1]at RB;have asq:w.heap.size<=W6.heap.size:=F6.out.size;have FIN:Hid (∀W7,al W6 W7->W6.heap.size<=W7.heap.size->Df w0 g gl A c As cd (ym x L lg) w (.returned (.slice (some ⟨W7.heap.size,0,none⟩) 1 1)) (W7.alloc (.cells oc.toArray 97))):=Y (fun W7 b7 s7=>by
  have b8:Below W6.heap.size W6 (W7.alloc (.cells oc.toArray 97)):=b7.alloc s7 _;have H8:=H6.out.G b8;have OK:=LXO.out;rw[HLX.out]at OK⊢;refine⟨_,dp,J,?_,⟨OK,⟨xY (.slice A x.q.name.length c) yy,?_,fun _=>⟨?_,?_,fun e=>absurd e ?_⟩⟩⟩,?_⟩
  ·have:=ON.out W7;rw[heb.out,HYP.out.2.1,akP.out];exact this.mono (Nat.le_trans asq s7)
  ·rw[<-HYY.out.2]at H8;exact H8
  ·rw[hx1.out];exact HMZ.out
  ·rw[hx1.out]
  ·rw[hx1.out];exact X
  ·
   exact F6.out.trans (Fr.G (S:=LS g gl) b8) (fun _ _ h=>h))
 clear hmz HMZ HLX LXO H6 NM6 F6 HYY HYQ hxq hx1 heb n9 n10 n19 n42 hoc ON haY e1 hql hqo i1 i2 iq isv m18 m4 m7 m9 m13 m14 m15 hM hdl hgt hdn hst;go_wp2_with fail;refine wp_region_held_drew (S:=fun V=>al W6 V) (by kernel_rfl) (Below.refl _ _).drew (fun K=>?_);cases bz
 case' false=>
  obtain rfl:false=eb:=hez.out;refine uL K 14 [0,1,2,3,4,5,6,7,8,9,10,11,12,13] J (by kernel_rfl) (fun _ _ _ _ _ h=>h) J J ?_;repeat(refine aj _ ?_;simp only[E])
  (refine ah _ J J (fun V hV=>(uP 28 (.tmp 79) ⟨g,10,none⟩ J J (LQ.out V hV))) ?_;simp only[E])
  (refine aj (.int .i64 ii) ?_;simp only[E])
  (refine aj (.int .i64 lg) ?_;simp only[E])
  (refine ah (.bool false) J J (fun V hV=>fK) ?_;simp only[E])
  (refine aj (.bool false) ?_;simp only[E])
  repeat(refine⟨_,undef,J,.inr ⟨J,J⟩,?_⟩;simp only[E])
  (refine aj (.bool false) ?_;simp only[E])
  simp only[vY]
 case' true=>
  obtain rfl:x.ed=eb:=hez.out;refine uL K 14 [0,1,2,3,4,5,6,7,8,9,10,11,12,13] J (by kernel_rfl) (fun _ _ _ _ _ h=>h) J J ?_;repeat(refine aj _ ?_;simp only[E])
  (refine ah _ J J (fun V hV=>(uP 28 (.tmp 79) ⟨g,10,none⟩ J J (LQ.out V hV))) ?_;simp only[E])
  (refine aj (.int .i64 ii) ?_;simp only[E])
  (refine aj (.int .i64 lg) ?_;simp only[E])
  (refine ah (.bool true) J J (fun V hV=>fK) ?_;simp only[E])
  repeat(refine aj _ ?_;simp only[E])
  (refine ah _ J J (fun V hV=>(uP 4 (.tmp 88) ⟨g,9,none⟩ J J (L9.out V hV))) ?_;simp only[E])
  (refine aj (.bool x.ed) ?_;simp only[E])
  simp only[vY]
 all_goals
  refine vx 14 (some 91) 82 #[.agg #[.slice A x.q.name.length c,.int .i64 x.q.O,.int .i64 x.q.N],.int .i64 ii,.bool _] (by kernel_rfl) J J (by kernel_rfl) (by go_simp;rfl) (BU.out _ K _) ?_;rintro _ w4 ⟨rfl,b4⟩;have K:=um K K.size b4;refine⟨_,J,K,?_⟩;simp only[E];rw[akP.out];generalize(vN _ false).2=er at*;refine uL K 5 [15,16,17,18,19] J (by kernel_rfl) (fun _ _ _ _ _ h=>h) J J ?_
  (refine aj (.tuple #[.string (bs oct),.int .i64 er]) ?_;simp only[E])
  (refine aj (.string (bs oct)) ?_;simp only[E])
  (refine aj (.int .i64 er) ?_;simp only[E])
  (refine aj (.string (bs oct)) ?_;simp only[E])
  (refine aj (.int .i64 er) ?_;simp only[E])
  simp only[vY];refine wpAnyH_done (by kernel_rfl) ?_ _;have hb4:=hb6.G K ayd;have FF:=Y (FIN.out w4 K K.size);clear FIN BU LQ L9 hb6 b4 hez hbz akP;go_wp2_with first
   |(refine ur (.load 24 (.tmp 97)) rfl ?_;go_must(refine uu rfl _ _ rfl g 19 rfl hb4 18 I _ underlying24 rfl Cf ay ase ?_))
   |(refine ur (.build 97 #[(0,.const (.int .i64 1)),(1,.tmp 98),(2,.tmp 99),(3,.tmp 100)]) rfl ?_;go_must(refine wi rfl 97 _ rfl #[(0,.int .i64 1),(1,.agg ay.toArray),(2,.int .i64 (1024+pp)),(3,.string (bs oct))] ee (RB.out _) ?_))
   |(refine ur (.buildSlice 34 1 #[(0,.tmp 101)]) rfl ?_;go_must(refine CU rfl 34 97 _ 21 _ underlying34 IJ az az (.tmp 101) rfl oc rfl HLo ?_))
  go_ret;exact FF.out
theorem Ue(w0:World)(g gl:Nat)(A:Option Addr)(c:Nat)(As:Option Addr)(cd:Nat)(x:Xc)(L:Lt)(qs:List Value)(dp:Option Nat)(w:World)(h:Cv w0 w g gl A c As cd x L qs dp)(hst:x.st)(hdn:x.done=false)(hmz:x.yr=vU.zero)(z:x.k<x.tr.length)(hu:L.us<=999999990)(hsn:x.uV<=1000000):
  Calls prog 92 #[.pointer (some ⟨g,0,none⟩)] w (Df w0 g gl A c As cd (Db x L) w):=by
 have B2:=Y (EL w0 g gl A c As cd x L qs dp 2 w h hst hdn hmz z hu hsn I);have B0:=Y (EL w0 g gl A c As cd x L qs dp 0 w h hst hdn hmz z hu hsn I);have hT:Hid (Db x L=ym x L (if x.vc then 2 else 0)):=Y (by unfold Db;rw[if_pos z]);obtain⟨ul,vt,ds,Z,hM,m4,m7,_⟩:=h.cells;have d7:=Z.M 7 m7;clear h hst hdn hmz z hu hsn Z m4 m7 hM;obtain⟨b,Z⟩:=ao x.vc;rw[Z.out]at hT d7;clear Z;cases b
 case' false=>go_enter func92,ntmps92;go_wp2_with fail;refine B0.out.mono ?_
 case' true=>go_enter func92,ntmps92;go_wp2_with fail;refine B2.out.mono ?_
 all_goals
  rintro e1 w1 ⟨v,D',rfl,hx⟩;have HX:=Y hx;clear hx;go_wp2_with fail;go_ret;rw[hT.out];exact qw
theorem YG{o:Oper}{a:Act}(x:Operand)(ho:o.op= .call {callee:=.builtin .len,args:= #[x],argTypes:= #[65]})(A:Option Addr)(n c:Nat)(hx:a.eval x= .slice A n c):(execOp a.eval o).run prog w= .ok (.value (.int .i64 (n:Int))) w:=by
 unfold execOp;simp only[ho,resolve,Sem.run_bind,Sem.run_pure,Result.andThen_ok,List.map_toArray,List.map_cons,List.map_nil,hx];go_simp
theorem Df.back{w0:World}{g gl:Nat}{As:Option Addr}{cd:Nat}{r:XR}{w1 w':World}{e:Ending}(h:Df w0 g gl A c As cd r w1 e w')(k:Fr (LS g gl) w w1):Df w0 g gl A c As cd r w e w':=by
 obtain⟨v,D',he,ho,hx,hf⟩:=h;exact⟨v,D',he,ho.mono k.size,hx,k.trans hf (fun _ _ h=>h)⟩
theorem GJ(w0:World)(g gl:Nat)(A:Option Addr)(c:Nat)(As:Option Addr)(cd:Nat)(x:Xc)(L:Lt)(qs:List Value)(dp:Option Nat)(w:World)(h:Cv w0 w g gl A c As cd x L qs dp)(hst:x.st)(hdn:x.done=false)(hmz:x.yr=vU.zero)(z:x.k<x.tr.length)(hu:L.us<=999999990)(hsn:x.uV<=1000000):
  Calls prog 93 #[.pointer (some ⟨g,0,none⟩)] w (Df w0 g gl A c As cd (wM x L) w):=by
 have hkl:(x.k:Int)<=1000:=oO;have hk0:(0:Int)<=x.k:=I;obtain⟨w1,hw1⟩:∃w1,w1=w.setCell ⟨g,15,none⟩ (.int .i64 ((x.k:Int)+1)):=gG;obtain⟨M0,vt0,ds0,hb0,hM0,_,_,_,_,_,_,m15,_⟩:=h.cells;have f15:=hb0.frozen 15;have d15:=hb0.M 15 m15;have agc:=vp w g 15 (.int .i64 ((x.k:Int)+1));have H1:Cv w0 w1 g gl A c As cd {x with k:=x.k+1} L qs dp:=by
  rw[hw1];exact h.afs 2 I (.int .i64 ((x.k:Int)+1)) (fun ul hM=>hM.set 15 _) agc J J J J J J (fun vt=>by
   have e:(.int .i64 ((x.k:Int)+1))=Value.int .i64 ((x.k+1:Nat):Int):=mo;rw[e];rfl) J
 have F1:Fr (fun i=>i=g) w w1:=by rw[hw1];exact Fr.grown agc hb0 (.inr (.inr (.inr (.inr (.inr (.inl J)))))) J
 obtain⟨ul,vt,ds,Z,hM,m4,m7,m9,m10,m13,m14,asf,m16,m17,m18,m19,m42,m43,m44,m45,m46,hT,hm⟩:=H1.cells;obtain⟨At,ct,hvt⟩:=hT.form;subst hvt;have hgl:=Z.lt;have L14:=Y (fun V (hV:al w1 V)=>uB underlying65 J ((Z.G hV hgl).M 14 m14));have L15:=Y (fun V (hV:al w1 V)=>uB underlying3 J ((Z.G hV hgl).M 15 asf));have eK:((({x with k:=x.k+1}:Xc).k:Nat):Int)=(x.k:Int)+1:=rfl;have eT:({x with k:=x.k+1}:Xc).tr.length=x.tr.length:=rfl;rw[eK]at L15;rw[eT]at L14;obtain⟨bl,hbl⟩:=ao (decide ((x.k:Int)+1<(x.tr.length:Int)));have TR:=Y (fun(aB:x.k+1<x.tr.length)=>Ue w0 g gl A c As cd {x with k:=x.k+1} L qs dp w1.drew (H1.G (Below.refl _ _).drew) ⟨hst.ips,hst.to1,hst.to2,hst.trl,hst.err⟩ hdn hmz aB hu hsn);have HMZ:=Y hmz;have FIN:Hid (∀(V:World) (hV:al w1 V) (aB:¬x.k+1<x.tr.length) (v2:Int),v2=(if x.hard then 5 else 4)->∀V',(∀ul,F V g 90 ul->F V' g 90 ((ul.set 44 (.bool true)).set 45 (.int .i64 v2)))->V.grownBy V' (some g)->Df w0 g gl A c As cd (wM x L) w (.returned (.slice none 0 0)) V'):=Y (fun V hV aB v2 hv V' hw hgr=>by
  have HV:=H1.G hV;have e:wM x L=({x with k:=x.k+1,done:=true,vd:=v2,yr:=vU.zero},L,[]):=by unfold wM Db;rw[if_neg aB,hv]
  have H2:Cv w0 V' g gl A c As cd {x with k:=x.k+1,done:=true,vd:=v2,yr:=vU.zero} L qs dp:=HV.put hgr J J J J J HV.qk (fun R vt ds hR hd Z hM=>⟨ds,by
   have:=hw _ Z;rw[GI hR J J HV.ql J 2 I]at this;rw[GI hR J J HV.ql J 3 I]at this;exact this,by rw[<-HMZ.out];exact hM⟩)
  obtain⟨R,vt,ds,hbV,_⟩:=HV.b;rw[e];refine⟨_,dp,J,vJ.nil _ _,⟨⟨fun h=>dZ,fun h=>dZ⟩,⟨qs,H2,fun h=>by cases h⟩⟩,?_⟩;exact((F1.mono (fun i h=>.inl h)).trans (Fr.G (S:=LS g gl) hV) (fun _ _ h=>h)).trans (Fr.grown (S:=LS g gl) hgr hbV (.inr (.inr (.inr (.inr (.inr (.inl J)))))) (.inl J)) (fun _ _ h=>h))
 have F2:Fr (LS g gl) w w1.drew:=(F1.mono (fun i h=>.inl h)).trans (Fr.G (S:=LS g gl) (Below.refl _ _).drew) (fun _ _ h=>h);have TB:=Y (fun(aB:x.k+1<x.tr.length)=>(TR.out aB).mono (fun e w' hx=>hx.back F2));have TE:Db {x with k:=x.k+1} L=wM x L:=rfl;rw[TE]at TB;have L44:=Z.drew.M 44 m44;have L45:=Z.drew.M 45 m45;have f44:=Z.drew.frozen 44;have f45:=Z.drew.frozen 45;have hbd:=Z.drew;clear TR H1 F1 F2 h hm hT m46 m45 m44 m42 m19 m18 m17 m16 asf m14 m13 m10 m9 m7 m4 Z eK eT TE hb0 hM0 agc hst hdn hmz HMZ hu hsn z;have aB:Hid (bl=true↔x.k+1<x.tr.length):=Y (by rw[<-hbl.out];simp;omega);generalize wM x L=RR at*;generalize(x.k:Int)=k at*;generalize x.hard=hd at*;cases bl
 case' false=>have FN:=Y (FIN.out w1.drew (Below.refl _ _).drew (fun h=>by cases aB.out.2 h))
 case' true=>have TT:=Y (TB.out (aB.out.1 J))
 all_goals
  clear FIN TB aB;go_enter func93,ntmps93;go_upto_region 2 with fail;rw[<-hw1];clear hw1;go_wp2_with fail;refine wp_region_held_drew (S:=fun V=>al w1 V) (by kernel_rfl) (Below.refl _ _).drew (fun K=>?_);refine uL K 10 [0,1,2,3,4,5,6,7,8,9] J (by kernel_rfl) (fun _ _ _ _ _ h=>h) J J ?_;repeat(refine aj _ ?_;simp only[E])
  (refine ah _ J J (fun V hV=>(uP 3 (.tmp 12) ⟨g,15,none⟩ J J (L15.out V hV))) ?_;simp only[E])
  repeat(refine aj _ ?_;simp only[E])
  (refine ah _ J J (fun V hV=>(uP 65 (.tmp 16) ⟨g,14,none⟩ J J (L14.out V hV))) ?_;simp only[E])
  (refine ah (.int .i64 (x.tr.length:Int)) J J (fun V hV=>(YG (.tmp 17) J At x.tr.length ct J)) ?_;simp only[E])
  (refine ah (.bool _) J J (fun V hV=>(by change Result.ok (Next.value (Value.bool (decide (k+1<(x.tr.length:Int))))) V=_;rw[hbl.out])) ?_;simp only[E])
  simp only[vY];refine wpAnyH_done (by kernel_rfl) ?_ _;clear L14 L15 hbl
 ·go_wp2_with fail;refine TT.out.mono ?_;rintro e1 w3 ⟨v,D',rfl,hx⟩;have HX:=Y hx;clear hx;go_wp2_with fail;go_ret;exact qw
 ·
  generalize w1.drew=V1 at*;go_upto_region 6 with fail;obtain⟨V2,hV2⟩:∃V2,V2=(V1.setCell ⟨g,44,none⟩ (.bool true)).setCell ⟨g,45,none⟩ (.int .i64 4):=gG;have B2:F V2 g 90 ((ul.set 44 (.bool true)).set 45 (.int .i64 4)):=by rw[hV2];exact(hbd.set 44 _).set 45 _
  have G2:V1.grownBy V2 (some g):=by rw[hV2];exact uS (uS (World.grownBy.refl V1 (some g)) 44 (.bool true)) 45 (.int .i64 4)
  have F4:Hid (∀ul,F V1 g 90 ul->F V2 g 90 ((ul.set 44 (.bool true)).set 45 (.int .i64 4))):=Y (fun ul hM=>by rw[hV2];exact(hM.set 44 _).set 45 _);change Code.wp _ _ _ _ ((V1.setCell ⟨g,44,none⟩ (.bool true)).setCell ⟨g,45,none⟩ (.int .i64 4));rw[<-hV2];clear hV2;have e43:=B2.M 43 (by rw[List.getElem?_set_ne I,List.getElem?_set_ne I];exact m43);have e45:=B2.M 45 (by rw[List.getElem?_set_self (by rw[List.length_set,hM];omega)]);have g45:=B2.frozen 45;clear L44 L45 f44 f45;cases hd
  case' false=>have FF:=Y (FN.out 4 J V2 F4.out G2)
  case' true=>
   have FF:=Y (FN.out 5 J (V2.setCell ⟨g,45,none⟩ (.int .i64 5)) (fun ul hM=>by
    have:=(F4.out ul hM).set 45 (.int .i64 5);rwa[List.set_set]at this) (uS G2 45 (.int .i64 5)))
  all_goals
   clear FN F4 G2 B2;go_wp2_with fail;go_ret;exact FF.out
end Go.Proofs.YthnbcmlnpdabhaaGreat
