/-
  Layer 13,the laws' own:Small.
-/
import Derived.Test.YtakkipnmpmobbaaGreatHBq
import Derived.Test.YtakkipnmpmobbaaGreatHJq
import Derived.Test.YtakkipnmpmobbaaGreatHNq
namespace Go.Proofs.YtakkipnmpmobbaaGreat
open _root_.Go.Proofs.Tryz
set_option maxHeartbeats 8000000
open Go.RowKit
set_option maxRecDepth 100000
set_option linter.unusedVariables false
set_option linter.unusedSimpArgs false
variable {a b:List UInt8} {k g:Nat} {w w':World} {cs L:List Value}
theorem Ue(m:tq)(hw:∀r∈m.Em,r.wf):
  ((tM m false).2=0/\(tM m true).2=0/\(tM m true).1.length<=(tM m false).1.length/\(tM m false).1.length<=65535/\vZ (tM m false).1= .ok m/\vZ (tM m true).1= .ok m)\/
  ((tM m false).2≠0/\(tM m true).2=0/\(tM m true).1.length<=65535/\vZ (tM m true).1= .ok m)\/
  ((tM m false).2≠0/\(tM m true).2≠0/\(tM m true).1=[]/\(tM m false).1=[]):=by
 by_cases hc:uf m=0
 ·
  have hle:=acD m hw hc;by_cases U:65535<(Cc m true).1.length
  ·have F:65535<(Cc m false).1.length:=Y;right;right;rw[Dc true hc U,Dc false hc F];exact⟨K,K,I,I⟩
  ·
   have d1:=QG m true hw hc Y;by_cases F:65535<(Cc m false).1.length
   ·right;left;rw[Ig true hc U,Dc false hc F];exact⟨K,I,by show(Cc m true).1.length<=65535;omega,d1⟩
   ·have d2:=QG m false hw hc Y;left;rw[Ig true hc U,Ig false hc F];exact⟨I,I,hle,by show(Cc m false).1.length<=65535;omega,d2,d1⟩
 ·right;right;rw[I6 true hc,I6 false hc];exact⟨hc,hc,I,I⟩
def Du(c:UInt8):UInt8:=if 65<=c.toNat/\c.toNat<=90 then UInt8.ofNat (c.toNat+32)else c
def vF(l:List UInt8):List UInt8:=l.map Du
def tF(n:List (List UInt8)):List (List UInt8):=n.map vF
theorem QK{c:UInt8}(h:65<=c.toNat/\c.toNat<=90):(Du c).toNat=c.toNat+32:=by
 unfold Du;rw[if_pos h,UInt8.toNat_ofNat'];omega
theorem Vw{c:UInt8}(h:¬(65<=c.toNat/\c.toNat<=90)):Du c=c:=by unfold Du;rw[if_neg h]
theorem Jt(l:List UInt8):(vF l).length=l.length:=by simp[vF]
theorem Cz(l:List (List UInt8)):(tF l).length=l.length:=by simp[tF]
theorem Mm(c:UInt8)(w:World):Calls prog 131 #[.int .u8 (c.toNat:Int)] w (uQ (.int .u8 ((Du c).toNat:Int)) w):=by
 have hc:=c.toNat_lt;by_cases h:65<=c.toNat/\c.toNat<=90
 ·have e:=QK h;rw[e];obtain⟨U,F⟩:=h;have h1':(65:Int)<=c.toNat:=Y;have h2':(c.toNat:Int)<=90:=Y;clear e U F;generalize c.toNat=k at*;go_enter func131,ntmps131;go_wp2_with fail;go_ret;exact uQ.mk (wv Y) I
 ·
  rw[Vw h];by_cases U:65<=c.toNat
  ·
   have F:¬c.toNat<=90:=fun F=>h ⟨U,F⟩
   have h1':(65:Int)<=c.toNat:=Y;have h2':¬(c.toNat:Int)<=90:=Y;clear h U F;generalize c.toNat=k at*;go_enter func131,ntmps131;exact mV
  ·have h1':¬(65:Int)<=c.toNat:=Y;clear h U;generalize c.toNat=k at*;go_enter func131,ntmps131;exact mV
theorem acH(ha:k<a.length)(Z:k<b.length)(h:Du a[k]≠Du b[k]):vF a≠vF b:=by
 intro e;have:=congrArg (fun l:List UInt8=>l[k]?) e;simp[vF,ha,Z]at this;exact h this
theorem acI(E:a.length=b.length)(h:∀i (ha:i<a.length) (Z:i<b.length),Du a[i]=Du b[i]):vF a=vF b:=by
 refine List.ext_getElem (by simp[vF,E]) fun i U F=>?_
 simp only[vF,List.getElem_map];exact h i (by simpa[vF]using U) (by simpa[vF]using F)
theorem Xm(a b:List UInt8)(w:World)(ha:a.length<=maxLen)(Z:b.length<=maxLen):
  Calls prog 117 #[.string (bs a),.string (bs b)] w (rW (.bool (decide (vF a=vF b))) w):=by
 unfold maxLen at ha Z;by_cases E:a.length=b.length
 case neg=>have hd:decide (vF a=vF b)=false:=decide_eq_false (fun e=>E (by rw[<-Jt a,<-Jt b,e]));have hl':((a.length:Int) !=(b.length:Int))=true:=aB;rw[hd];clear hd E;go_enter func117,ntmps117;go_wp2_with fail;go_ret;exact nH
 have hl':((a.length:Int) !=(b.length:Int))=false:=aB;have HL:=J E;obtain⟨q,hqq⟩:=aq (decide (vF a=vF b));rw[hqq.out];clear E;go_enter func117,ntmps117;go_wp2_with fail;go_loopw[13] (fun iv wr=>∃k:Nat,k<=a.length/\iv= .int .i64 k/\Hid (∀i (U:i<a.length) (F:i<b.length),i<k->Du a[i]=Du b[i])/\ao w wr) (fun iv _=>a.length-(intOf iv).toNat)
 case atStart=>exact⟨0,Nat.zero_le _,I,J (fun i _ _ h=>absurd h Y),Below.refl _ _⟩
 obtain⟨k,O,rfl,HE,hB⟩:=hrel;by_cases aA:k<a.length
 case pos=>
  have h1:(k:Int)<a.length:=Y;have hlb:k<b.length:=by have:=HL.out;omega
  have S1:=fun w=>Mm a[k] w
  have S2:=fun w=>Mm b[k] w
  obtain⟨x,hx⟩:=aq ((Du a[k]).toNat);obtain⟨y,hy⟩:=aq ((Du b[k]).toNat);simp only[hx.out]at S1;simp only[hy.out]at S2;have HS1:=J S1;have HS2:=J S2;clear S1 S2;by_cases hxy:x=y
  ·
   subst hxy;go_wp2_with fail;go_quiet((go_at_call 131;(first|with_reducible exact uQ.quiet (HS1.out _)|with_reducible exact uQ.quiet (HS2.out _))));go_wp2_with fail;go_roundw
   case rel=>exact⟨k+1,Y,fQ,J (fun i U F h3=>by
    by_cases hi:i=k
    ·subst hi;exact UInt8.toNat_inj.1 (hx.out.trans hy.out.symm)
    ·
     exact HE.out i U F Y),below_drewN hB _⟩
   case measure=>simp[intOf];omega
  ·
   obtain rfl:q=false:=by rw[<-hqq.out];refine decide_eq_false (acH aA hlb (fun e=>hxy ?_));rw[<-hx.out,<-hy.out,e]
   have hl:((x:Int) !=(y:Int))=true:=aB;clear hxy hqq;go_wp2_with fail;go_quiet((go_at_call 131;(first|with_reducible exact uQ.quiet (HS1.out _)|with_reducible exact uQ.quiet (HS2.out _))));go_wp2_with fail;go_ret;exact rW.mk I (below_drewN hB _)
 obtain rfl:k=a.length:=Y;have h1:¬(a.length:Int)<a.length:=Y;obtain rfl:q=true:=by rw[<-hqq.out];exact decide_eq_true (acI HL.out (fun i U F=>HE.out i U F U))
 clear HE hqq aA O;exact oj
theorem acJ{a b:List (List UInt8)}(ha:k<a.length)(Z:k<b.length)(h:vF a[k]≠vF b[k]):tF a≠tF b:=by
 intro e;have:=congrArg (fun l:List (List UInt8)=>l[k]?) e;simp[tF,ha,Z]at this;exact h this
theorem acK{a b:List (List UInt8)}(E:a.length=b.length)(h:∀i (ha:i<a.length) (Z:i<b.length),vF a[i]=vF b[i]):tF a=tF b:=by
 refine List.ext_getElem (by simp[tF,E]) fun i U F=>?_
 simp only[tF,List.getElem_map];exact h i (by simpa[tF]using U) (by simpa[tF]using F)
theorem Gf(A Hh:Option Addr)(a b:List (List UInt8))(ca cb:Nat)(w:World)(hA:wA w A ca a)(hB:wA w Hh cb b):
  Calls prog 110 #[.slice A a.length ca,.slice Hh b.length cb] w (rW (.bool (decide (tF a=tF b))) w):=by
 obtain⟨tA,cA,lA,mA⟩:=hA;obtain⟨tB,cB,lB,mB⟩:=hB;by_cases E:a.length=b.length
 case neg=>have hd:decide (tF a=tF b)=false:=decide_eq_false (fun e=>E (by rw[<-Cz a,<-Cz b,e]));have hl':((a.length:Int) !=(b.length:Int))=true:=aB;rw[hd];clear hd E;go_enter func110,ntmps110;go_wp2_with fail;go_ret;exact nH
 have hl':((a.length:Int) !=(b.length:Int))=false:=aB;have HL:=J E;obtain⟨q,hqq⟩:=aq (decide (tF a=tF b));rw[hqq.out];clear E;go_enter func110,ntmps110;go_wp2_with fail;go_loopw[14] (fun iv wr=>∃k:Nat,k<=a.length/\iv= .int .i64 k/\Hid (∀i (U:i<a.length) (F:i<b.length),i<k->vF a[i]=vF b[i])/\ao w wr) (fun iv _=>a.length-(intOf iv).toNat)
 case atStart=>exact⟨0,Nat.zero_le _,I,J (fun i _ _ h=>absurd h Y),Below.refl _ _⟩
 obtain⟨k,O,rfl,HE,hB⟩:=hrel;by_cases aA:k<a.length
 case pos=>
  have h1:(k:Int)<a.length:=Y;have hlb:k<b.length:=by have:=HL.out;omega
  have aLv:(k:Int)<b.length:=Y;obtain⟨ba,oa,rfl,la,xa⟩:=tA Y;obtain⟨bb,ob,rfl,lb,xb⟩:=tB Y;have c1:wr.cell? ⟨ba,oa+k,none⟩=some (.string (bs a[k])):=j8;have c2:wr.cell? ⟨bb,ob+k,none⟩=some (.string (bs b[k])):=(hB.cell (p:=⟨bb,ob+k,none⟩) lb).trans (xb k hlb);have S:=J (fun w=>Xm a[k] b[k] w (by have:=mA _ (List.getElem_mem aA);simp only[maxLen];omega) (by have:=mB _ (List.getElem_mem hlb);simp only[maxLen];omega));obtain⟨s,hs⟩:=aq (decide (vF a[k]=vF b[k]));rw[hs.out]at S;clear xa xb mA mB;go_wp2_with fail;refine(S.out _).mono ?_;rintro _ B ⟨rfl,b1⟩;have HB1:=rC hB hB.size b1;clear b1 S c1 c2;cases s with
  |false=>
   obtain rfl:q=false:=by rw[<-hqq.out];exact decide_eq_false (acJ aA hlb (of_decide_eq_false hs.out))
   clear hqq hs;exact qj
  |true=>
   go_wp2_with fail;go_roundw
   case rel=>exact⟨k+1,Y,fQ,J (fun i U F h3=>by
    by_cases hi:i=k
    ·subst hi;exact of_decide_eq_true hs.out
    ·
     exact HE.out i U F Y),HB1⟩
   case measure=>simp[intOf];omega
 obtain rfl:k=a.length:=Y;have h1:¬(a.length:Int)<a.length:=Y;obtain rfl:q=true:=by rw[<-hqq.out];exact decide_eq_true (acK HL.out (fun i U F=>HE.out i U F U))
 clear HE hqq aA O tA tB mA mB;exact oj
theorem Mn(c:UInt8):sN [c]=[.int .u8 (c.toNat:Int)]:=rfl
theorem QL(l:List UInt8)(w:World)(E:l.length<=140737488355328):Calls prog 97 #[.string (bs l)] w (rW (.string (bs (vF l))) w):=by
 go_enter func97,ntmps97;go_wp2_with fail;go_loopw[3,4] (fun v iv wr=>∃k:Nat,k<=l.length/\iv= .int .i64 k/\wr.ownsRow w.heap.size 5 1 v k (sN (vF (l.take k)))/\ao w wr) (fun _ iv _=>l.length-(intOf iv).toNat)
 case atStart=>exact⟨0,Nat.zero_le _,I,World.ownsRow_nil _ _ _ _,Below.refl _ _⟩
 obtain⟨k,O,rfl,Z,hB⟩:=hrel;obtain⟨A,c,hv⟩:=tp Z;subst hv;by_cases aA:k<l.length
 case pos=>
  have h1:(k:Int)<l.length:=Y;have hc:=(l[k]).toNat_lt;by_cases h:65<=(l[k]).toNat/\(l[k]).toNat<=90
  ·
   have HX:Hid (((Du l[k]).toNat:Int)=(l[k].toNat:Int)+32):=J (by rw[QK h];omega);obtain⟨U,F⟩:=h;have h1':(65:Int)<=(l[k]).toNat:=Y;have h2':((l[k]).toNat:Int)<=90:=Y;clear U F;go_wp2_with(at_builtin;go_must(refine tQ _ I (.tmp 23) (.tmp 25) 101 I 5 (.int .u8 0) 1 1 underlying101 xf I K w.heap.size _ k _ I (World.ownsRow.alloc Z _) aS ⟨wr.heap.size,0,none⟩ 1 1 [.int .u8 ((l[k].toNat:Int)+32)] I I (vJ _ _ _ _ I) (uA I) K aL Y ?_));intro g2 ahd w2 hb2 afp ahg;have hB2:=sX (hB.alloc hB.size _) aS (Z.alloc _) afp;have hb3:w2.ownsRow w.heap.size 5 1 (.slice (some ⟨g2,0,none⟩) (k+1) ahd) (k+1) (sN (vF (l.take (k+1)))):=by
    have e:sN (vF (l.take (k+1)))=sN (vF (l.take k))++[.int .u8 ((l[k].toNat:Int)+32)]:=by rw[List.take_succ_eq_append_getElem aA];simp only[vF,List.map_append,xL,List.map_cons,List.map_nil,Mn];rw[HX.out]
    rw[e];exact hb2
   clear Z hb2 afp hB;exact nN
  ·
   have HX:Hid (((Du l[k]).toNat:Int)=(l[k].toNat:Int)):=J (by rw[Vw h]);by_cases U:65<=(l[k]).toNat
   ·
    have F:¬(l[k]).toNat<=90:=fun F=>h ⟨U,F⟩
    have h1':(65:Int)<=(l[k]).toNat:=Y;have h2':¬((l[k]).toNat:Int)<=90:=Y;clear h U F;exact mK
   ·have h1':¬(65:Int)<=(l[k]).toNat:=Y;clear h U;exact mK
 obtain rfl:k=l.length:=Y;have h1:¬(l.length:Int)<l.length:=Y;have ht:l.take l.length=l:=ju;rw[ht]at Z;have hb2:wr.ownsRow w.heap.size 5 1 (.slice A l.length c) (vF l).length (sN (vF l)):=by rw[Jt];exact Z
 have hcv:=yz hb2;clear ht Z hb2;exact oj
def aaj(n:List (List UInt8))(w:World)(e:Ending)(w':World):Prop:=∃v,e= .returned v/\tw w' v n/\ao w w'
theorem GX(A:Option Addr)(c:Nat)(n:List (List UInt8))(w:World)(hA:wA w A c n)(hn:n.length<=8000000000000):Calls prog 81 #[.slice A n.length c] w (aaj (tF n) w):=by
 obtain⟨tA,cA,lA,mA⟩:=hA;unfold aaj;go_enter func81,ntmps81;go_wp2_with fail;go_loopw[3,4] (fun v iv wr=>∃k:Nat,k<=n.length/\iv= .int .i64 k/\wr.ownsRow w.heap.size 9 1 v k ((tF (n.take k)).map fun t=>Value.string (bs t))/\ao w wr) (fun _ iv _=>n.length-(intOf iv).toNat)
 case atStart=>exact⟨0,Nat.zero_le _,I,World.ownsRow_nil _ _ _ _,Below.refl _ _⟩
 obtain⟨k,O,rfl,Z,hB⟩:=hrel;obtain⟨A',c',hv⟩:=tp Z;subst hv;by_cases aA:k<n.length
 case pos=>
  have h1:(k:Int)<n.length:=Y;obtain⟨ba,oa,rfl,la,xa⟩:=tA Y;have c1:wr.cell? ⟨ba,oa+k,none⟩=some (.string (bs n[k])):=j8;have S:=J (fun w=>QL n[k] w (mA _ (List.getElem_mem aA)));have HX:Hid (tF (n.take (k+1))=tF (n.take k)++[vF n[k]]):=J (by rw[List.take_succ_eq_append_getElem aA];simp only[tF,List.map_append,List.map_cons,List.map_nil]);clear xa;generalize vF n[k]=t at*;go_wp2_with fail;refine(S.out _).mono ?_;rintro _ B ⟨rfl,b1⟩;have hb1:=sT Z b1;have hB1:=rC hB hB.size b1;clear S b1 c1 Z hB;go_wp2_with(at_builtin;go_must(refine tQ _ I (.tmp 11) (.tmp 17) 23 I 9 (.string ⟨#[]⟩) 1 16 underlying23 xK I K w.heap.size _ k _ I (World.ownsRow.alloc hb1 _) cM ⟨B.heap.size,0,none⟩ 1 1 [.string (bs t)] I I (vJ _ _ _ _ I) (uA I) K aL Y ?_));intro g2 ahd w2 hb2 afp ahg;have hB2:=sX (hB1.alloc hB1.size _) cM (hb1.alloc _) afp;have hb3:w2.ownsRow w.heap.size 9 1 (.slice (some ⟨g2,0,none⟩) (k+1) ahd) (k+1) ((tF (n.take (k+1))).map fun t=>Value.string (bs t)):=by rw[HX.out,List.map_append];exact hb2
  clear hb1 hb2 afp hB1 HX;exact nN
 obtain rfl:k=n.length:=Y;have h1:¬(n.length:Int)<n.length:=Y;have ht:n.take n.length=n:=ju;rw[ht]at Z;have hb2:tw wr (.slice A' n.length c') (tF n):=by unfold tw;rw[Cz];exact⟨Z.1,Z.2.imp id (fun⟨g,cap,cur,U,_,h3⟩=>⟨g,cap,cur,U,Nat.zero_le _,h3⟩)⟩
 clear ht Z;go_wp2_with fail;go_ret;exact⟨_,I,hb2,hB⟩
theorem QM(A Hh:Option Addr)(a b:List (List UInt8))(ca cb:Nat)(w:World)(hA:wA w A ca a)(hB:wA w Hh cb b)(ha:a.length<=8000000000000)(Z:b.length<=8000000000000):
  Calls prog 49 #[.slice A a.length ca,.slice Hh b.length cb] w (rW (.bool (decide (tF a=tF b))) w):=by
 have L1:=J (GX A ca a w hA ha);have L2:=J (fun w' (q:ao w w')=>GX Hh cb b w' (hB.G q) Z);have la:=Cz a;have lb:=Cz b;have ka:=hA.2.2.1;have kb:=hB.2.2.1;generalize tF a=a' at*;generalize tF b=b' at*;have LA:=J la;have LB:=J lb;clear la lb hA hB ha Z;go_enter func49,ntmps49;go_wp2_with fail;refine L1.out.mono ?_;rintro _ B ⟨v1,rfl,t1,b1⟩;obtain⟨A1,c1,hv,-,-⟩:=t1.form;subst hv;clear L1;go_wp2_with fail;refine(L2.out _ b1).mono ?_;rintro _ w2 ⟨v2,rfl,t2,b2⟩;obtain⟨A2,c2,hv,-,-⟩:=t2.form;subst hv;have HB2:=rC b1 b1.size b2;replace t1:=t1.G b2;obtain⟨_,_,e1,r1,-⟩:=t1.form;obtain⟨_,_,e2,r2,-⟩:=t2.form;injection e1 with e11 e12 e13;injection e2 with e21 e22 e23;subst e11 e13 e21 e23;have hk:=J (KZ A1 A2 a' b' c1 c2 w2 r1 r2 (by have:=LA.out;omega) (by have:=LB.out;omega));clear b1 b2 L2 t1 t2 r1 r2 e12 e22;go_wp2_with fail;refine hk.out.mono ?_;rintro _ w3 ⟨rfl,b3⟩;have HB3:=rC HB2 HB2.size b3;clear b3;go_wp2_with fail;go_ret;exact rW.mk I HB3
structure Qy where
 sv:sg
 port:Int
 id:Int
 q:Qn
def yf(vn:Value)(y:Qy):List Value:=y.sv.cells++[.int .i64 y.port,.int .i64 y.id,vn,.int .i64 y.q.Q,.int .i64 y.q.cl]
structure QN (w:World) (cs:List Value) (y:Qy) (A:Option Addr) (c:Nat):Prop where
 hcs:cs=yf (.slice A y.q.name.length c) y
 ip:y.sv.ip.length=16
 nm:wA w A c y.q.name
theorem QN.G{y:Qy}{A:Option Addr}{c:Nat}(h:QN w cs y A c)(Z:ao w w'):QN w' cs y A c:=⟨h.hcs,h.ip,h.nm.G Z⟩
section
variable {vn:Value} {y:Qy}
theorem xV(h:y.sv.ip.length=16):(yf vn y).length=23:=by simp[yf,y.sv.rY h]
theorem aak(h:y.sv.ip.length=16):((yf vn y).drop 0).take 18=y.sv.cells:=by rw[List.drop_zero];unfold yf;exact List.take_left' (y.sv.rY h)
theorem zP(h:y.sv.ip.length=16)(k:Nat):(yf vn y)[18+k]?=[Value.int .i64 y.port,.int .i64 y.id,vn,.int .i64 y.q.Q,.int .i64 y.q.cl][k]?:=by
 unfold yf;rw[List.getElem?_append_right cO,y.sv.rY h,Nat.add_sub_cancel_left]
theorem afS(h:y.sv.ip.length=16):((yf vn y).drop 20).take 3=qC vn y.q:=by
 have e:(yf vn y).drop 20=(([Value.int .i64 y.port,.int .i64 y.id,vn,.int .i64 y.q.Q,.int .i64 y.q.cl]:List Value)).drop 2:=by unfold yf;rw[show(20:Nat)=y.sv.cells.length+2 by rw[y.sv.rY h],List.drop_append];simp
 rw[e];rfl
theorem acL(h:vn.oneCell'=true):∀v∈yf vn y,v.oneCell'=true:=by
 intro v hv;rcases List.mem_append.1 hv with hv|hv
 ·exact y.sv.tm v hv
 ·simp only[List.mem_cons,List.not_mem_nil,or_false]at hv;rcases hv with rfl|rfl|rfl|rfl|rfl<;>first|rfl|exact h
end
def acM(x y:Qn):Bool:=decide (x.Q=y.Q)&&(decide (x.cl=y.cl)&&decide (tF x.name=tF y.name))
def yL(y:Qy)(m:tq):Bool:=m.hd.qr&&(decide (m.hd.op=0)&&(decide (m.hd.id=y.id)&&match m.qs with
 |[x]=>acM x y.q
 |_=>false))
theorem Uf{y:Qy}{m:tq}{x:Qn}(h:m.qs=[x]):yL y m=(m.hd.qr&&(decide (m.hd.op=0)&&(decide (m.hd.id=y.id)&&acM x y.q))):=by unfold yL;rw[h]
theorem Xn{y:Qy}{m:tq}(h:m.qs.length≠1):yL y m=false:=by
 unfold yL;cases hq:m.qs with
 |nil=>simp
 |cons x l=>
  cases l with
  |nil=>rw[hq]at h;simp at h
  |cons z l=>simp
theorem Xo(cs ds:List Value)(y:Qy)(m:tq)(A:Option Addr)(c:Nat)(Aq Aa Au Ae:Option Addr)(cq ca cu ce:Nat)(w:World)(U:QN w cs y A c)(F:Ct w ds m Aq Aa Au Ae cq ca cu ce):
  Calls prog 167 #[.agg cs.toArray,.agg ds.toArray] w (rW (.bool (yL y m)) w):=by
 obtain⟨t1,ht1⟩:∃t1:TypeId,t1=163:=gh;have rB:=U.ip;have hl1:cs.length=23:=by rw[U.hcs];exact xV rB
 have L19:cs[19]?=some (.int .i64 y.id):=by rw[U.hcs];exact zP rB 1
 have L20:cs[20]?=some (.slice A y.q.name.length c):=by rw[U.hcs];exact zP rB 2
 have L21:cs[21]?=some (.int .i64 y.q.Q):=by rw[U.hcs];exact zP rB 3
 have L22:cs[22]?=some (.int .i64 y.q.cl):=by rw[U.hcs];exact zP rB 4
 have M0:ds[0]?=some (.int .i64 m.hd.id):=jU;have M1:ds[1]?=some (.bool m.hd.qr):=jU;have M2:ds[2]?=some (.int .i64 m.hd.op):=jU;have M10:ds[10]?=some (.slice Aq m.qs.length cq):=jU;have hq:=F.hq;have lq:=F.lq;have B2:=N.uE (w.alloc (.cells cs.toArray t1)) 169 ds (w.heap.size+1) ar;have B1:=(N.new w t1 cs).alloc (.cells ds.toArray 169);have HB:Below w.heap.size w ((w.alloc (.cells cs.toArray t1)).alloc (.cells ds.toArray 169)):=gF;have a19:=B1.rD 19 L19;have a20:=B1.rD 20 L20;have a21:=B1.rD 21 L21;have a22:=B1.rD 22 L22;have d0:=B2.rD 0 M0;have d1:=B2.rD 1 M1;have d2:=B2.rD 2 M2;have d10:=B2.rD 10 M10;subst ht1;obtain⟨agB,hO⟩:=aq (yL y m);rw[hO.out];have hN:=J U.nm;have HQ:=J hq;clear U F rB L19 L20 L21 L22 M0 M1 M2 M10 hq;cases hqr:m.hd.qr with
 |false=>
  obtain rfl:agB=false:=by rw[<-hO.out];unfold yL;rw[hqr];rfl
  rw[hqr]at d1;clear hqr hO;exact oD
 |true=>
 rw[hqr]at d1;by_cases hop:m.hd.op=0
 case neg=>
  obtain rfl:agB=false:=by rw[<-hO.out];unfold yL;rw[decide_eq_false hop];simp
  have aK8:(m.hd.op !=0)=true:=by simpa using hop
  clear hqr hO hop;exact oD
 rw[hop]at d2;by_cases hid:m.hd.id=y.id
 case neg=>
  obtain rfl:agB=false:=by rw[<-hO.out];unfold yL;rw[decide_eq_false hid];simp
  have aLI:(m.hd.id !=y.id)=true:=by simpa using hid
  clear hqr hO hop hid;exact oD
 by_cases hll:m.qs.length=1
 case neg=>
  obtain rfl:agB=false:=by rw[<-hO.out];exact Xn hll
  have aLs:((m.qs.length:Int) !=1)=true:=aB;rw[hid]at d0;clear hqr hO hop hid hll;exact oD
 obtain⟨x,hx⟩:=List.length_eq_one_iff.1 hll;have HQ':QsR w Aq [x]:=hx▸HQ.out;obtain⟨ba,oa,eA,hba,hel⟩:=HQ' ar;subst eA;obtain⟨An,cn,hr,hNx⟩:=hel 0 ar;have hrg:=rN hr HB hba;have hOf:acM x y.q=agB:=by rw[<-hO.out,Uf hx,hqr,decide_eq_true hop,decide_eq_true hid];rfl
 have HOF:=J hOf;rw[hid]at d0;rw[hll]at d10;replace hrg:((w.alloc (.cells cs.toArray 163)).alloc (.cells ds.toArray 169)).rangeAt ba oa [.slice An x.name.length cn,.int .i64 x.Q,.int .i64 x.cl]:=hrg;have SM:=J (fun w' (b:ao w w')=>Gf An A x.name y.q.name cn c w' (hNx.G b) (hN.out.G b));have e20:∀o:Obj,(((w.alloc (.cells cs.toArray 163)).alloc (.cells ds.toArray 169)).alloc o).cell? ⟨w.heap.size,20,none⟩=some (.slice A y.q.name.length c):=fun o=>((B1.alloc o).cell 20).trans ((B1.cell 20).symm.trans a20)
 have e21:∀o:Obj,(((w.alloc (.cells cs.toArray 163)).alloc (.cells ds.toArray 169)).alloc o).cell? ⟨w.heap.size,21,none⟩=some (.int .i64 y.q.Q):=fun o=>((B1.alloc o).cell 21).trans ((B1.cell 21).symm.trans a21)
 have e22:∀o:Obj,(((w.alloc (.cells cs.toArray 163)).alloc (.cells ds.toArray 169)).alloc o).cell? ⟨w.heap.size,22,none⟩=some (.int .i64 y.q.cl):=fun o=>((B1.alloc o).cell 22).trans ((B1.cell 22).symm.trans a22)
 have HB3:∀o:Obj,Below w.heap.size w (((w.alloc (.cells cs.toArray 163)).alloc (.cells ds.toArray 169)).alloc o):=fun o=>HB.alloc aB _
 have apT:=J HB3;clear hqr hO hop hid hll hx HQ' hel hr HQ hN hNx hOf HB3 a20 a21 a22 B1 B2 lq hba hl1 HB;unfold acM at HOF;generalize y.q.Q=Q,y.q.cl=cl at*;generalize x.Q=xt,x.cl=xl at*;by_cases hty:xt=Q
 case neg=>
  obtain rfl:agB=false:=by rw[<-HOF.out,decide_eq_false hty];rfl
  have auB:(xt==Q)=false:=lj;clear hty HOF SM;exact om
 by_cases hcl:xl=cl
 case neg=>
  obtain rfl:agB=false:=by rw[<-HOF.out,decide_eq_false hcl];simp
  have auB:(xt==Q)=true:=lj;have aBP:(xl==cl)=false:=by simpa using hcl
  clear hty hcl HOF SM;exact om
 have auB:(xt==Q)=true:=lj;have aBP:(xl==cl)=true:=by simpa using hcl
 obtain⟨s,hs⟩:=aq (decide (tF x.name=tF y.q.name));rw[hs.out]at SM;have hOs:=HOF.out;rw[hs.out,decide_eq_true hty,decide_eq_true hcl]at hOs;obtain rfl:s=agB:=hOs;clear hty hcl HOF hs;go_enter func167,ntmps167;go_wp2_with(refine rF (.load 160 (.tmp 32)) I ?_;go_must(refine wpList_load_mid I 160 (.tmp 32) I ba oa I _ _ hrg underlying160 I xS ?_));refine(SM.out _ (apT.out _)).mono ?_;rintro _ w5 ⟨rfl,b5⟩;have HB5:=rC (apT.out _) (apT.out _).size b5;clear b5 SM;go_wp2_with fail;go_ret;exact rW.mk I HB5
theorem sA.sD{m:tq}(h:sA w cs m)(hg:w.grownBy w' (some g))(Z:N w g 169 L):sA w' cs m:=by
 obtain⟨vq,va,vu,ve,U,F,h3,h4,h5,l⟩:=h;exact⟨vq,va,vu,ve,U,F.sD hg Z K K,h3.sD hg Z K K,h4.sD hg Z K K,h5.sD hg Z K K,l⟩
def vz(y:Qy)(o:Except Int tq):tq×Bool:=match o with
 | .ok m=>if yL y m then(m,true)else(tq.zero,false)
 | .error _=>(tq.zero,false)
def ad7(p:tq×Bool)(w:World)(e:Ending)(w':World):Prop:=∃ds,e= .returned (.tuple #[.agg ds.toArray,.bool p.2])/\sA w' ds p.1/\ao w w'
theorem D7:(prog.info? 163).map (·.size)=some 23:=by kernel_rfl
theorem Bj{n:Nat}{M:List Value}(h:N w g 169 (L++M.drop n))(hM:M.length<=n):N w g 169 L:=by
 exact pN
theorem Mo(cs:List Value)(y:Qy)(A:Option Addr)(c:Nat)(s:List UInt8)(w:World)(h:QN w cs y A c)(hs:s.length<=maxLen):
  Calls prog 161 #[.agg cs.toArray,.string (bs s)] w (ad7 (vz y (vZ s)) w):=by
 have hcl:cs.length=23:=lz;have D:=J (fun w=>QE s w hs);have hQ:=J (fun w' (b:ao w w')=>h.G b);have C1:N ((w.alloc (.cells cs.toArray 163)).alloc (.cells sV.toArray 169)) w.heap.size 163 cs:=(N.new w 163 cs).alloc _;have C4:N ((w.alloc (.cells cs.toArray 163)).alloc (.cells sV.toArray 169)) (w.heap.size+1) 169 sV:=N.uE _ 169 sV _ ar;have CB:Below w.heap.size w ((w.alloc (.cells cs.toArray 163)).alloc (.cells sV.toArray 169)):=gF;obtain⟨agB,hO⟩:=aq (vZ s);rw[hO.out]at D⊢;clear h hO hs;go_enter func161,ntmps161;go_wp2_with fail;refine(D.out _).mono ?_;rintro _ w3 ⟨ds,m,x,rfl,hM3,b3,hx⟩;have B1:=C1.G b3 C1.lt;have B4:=C4.G b3 C4.lt;have HB3:=rC CB CB.size b3;have hgd:w.heap.size+1<w3.heap.size:=B4.lt;have hdl:=hM3.len;have hd1:=J hM3.one;clear b3 C1 C4 CB D;go_wp2_with(refine rF (.store 169 (.tmp 6) (.tmp 11)) I (ab I w3.heap.size 0 ds (N.uE _ _ sV _ I) cP cQ hd1.out ?_));intro w4 B7 g4 _;replace B7:=Bj B7 cR;have k4:ao w3 w4:=rE ((Below.refl _ _).alloc (Nat.le_refl _) _) g4 ar (Nat.le_refl _);have HB4:=rC HB3 HB3.size k4;replace B1:=B1.G k4 B1.lt;replace B4:=B4.G k4 B4.lt;have hM4:=hM3.G k4;have hgr:w.heap.size<=w.heap.size+1:=Y;have hrl:=Cw;clear g4 k4 hM3 HB3;generalize w3.heap.size=gd at*;generalize w.heap.size+1=gr at*;rcases hx with⟨rfl,hO⟩|⟨hx,hO,rfl⟩
 case inr=>have hx':(x !=0)=true:=iH;have HF:Hid (vz y agB=(tq.zero,false)):=J (by rw[hO];rfl);clear hx hO hM4 B1 B7 hQ;exact nG
 have RC:Hid (Calls prog 167 #[.agg cs.toArray,.agg ds.toArray] w4 (rW (.bool (yL y m)) w4)):=J (by
  obtain⟨_,_,_,_,_,_,_,_,U⟩:=hM4.is;exact Xo cs ds y m A c _ _ _ _ _ _ _ _ w4 (hQ.out _ HB4) U)
 go_wp2_with(first
  |(refine rF (.load 163 (.tmp 2)) rfl ?_;go_must(refine vR 163 (.tmp 2) rfl bc w.heap.size 0 rfl B1 23 Y _ underlying163 rfl D7 cs (uH Y) ?_))
  |(refine rF (.load 169 (.tmp 6)) rfl ?_;go_must(refine vR 169 (.tmp 6) rfl bc gd 0 rfl B7 14 Y _ underlying169 rfl tn ds (uH Y) ?_)))
 refine RC.out.mono ?_;rintro _ w5 ⟨rfl,b5⟩;have HB5:=rC HB4 HB4.size b5;have B75:=B7.G b5 B7.lt;have B45:=B4.G b5 B4.lt;have hM5:=hM4.G b5;clear b5 RC B1 HB4 B7 B4 hM4 hQ;cases hr:yL y m with
 |false=>have HF:Hid (vz y agB=(tq.zero,false)):=J cT;have HB4:=HB5;have B4:=B45;clear hr hO HB5 B45 B75 hM5;exact nG
 |true=>
  have HF:Hid (vz y agB=(m,true)):=J cT;clear hr hO;go_wp2_with(first
   |(refine rF (.load 169 (.tmp 6)) rfl ?_;go_must(refine rG rfl _ _ rfl gd 0 rfl B75 14 Y _ underlying169 rfl tn ds (uH Y) ?_))
   |(refine rF (.store 169 (.tmp 4) (.tmp 22)) rfl (ab rfl gr 0 ds B45 Y cQ hd1.out ?_)))
  intro w8 B8 g8 _;replace B8:=Bj B8 cR;have HB8:=rE HB5 g8 HB5.size hgr;have hM8:=hM5.sD g8 B45;clear g8 HB5 B45 B75 hM5;go_wp2_with fail;refine tj I gr I B8 _ underlying169 I cQ I (.bool true) I ?_;rw[HF.out];exact rl
structure Ev where
 kind:Int
 fr:sg
 fp:Int
 port:Int
 data:List UInt8
def vA(e:Ev):List Value:=.int .i64 e.kind::(e.fr.cells++[.int .i64 e.fp,.int .i64 e.port,.string (bs e.data)])
theorem yX{e:Ev}(h:e.fr.ip.length=16):(vA e).length=22:=by simp[vA,e.fr.rY h]
theorem aeK{e:Ev}(h:e.fr.ip.length=16):((vA e).drop 1).take 18=e.fr.cells:=by
 show(e.fr.cells++_).take 18=_;exact List.take_left' (e.fr.rY h)
theorem Gg{e:Ev}(h:e.fr.ip.length=16)(k:Nat):(vA e)[19+k]?=[Value.int .i64 e.fp,.int .i64 e.port,.string (bs e.data)][k]?:=by
 unfold vA;rw[show 19+k=(18+k)+1 by omega,List.getElem?_cons_succ,List.getElem?_append_right (by rw[e.fr.rY h];omega),e.fr.rY h,Nat.add_sub_cancel_left]
theorem EY:(prog.info? 67).map (·.size)=some 18:=by kernel_rfl
def EZ(y:Qy)(e:Ev):tq×Bool:=if e.kind=2/\e.fr=y.sv/\e.fp=53/\e.port=y.port then vz y (vZ e.data)else(tq.zero,false)
theorem Ug(cs:List Value)(y:Qy)(A:Option Addr)(c:Nat)(e:Ev)(w:World)(h:QN w cs y A c)(rB:e.fr.ip.length=16)(hs:e.data.length<=maxLen):
  Calls prog 151 #[.agg cs.toArray,.agg (vA e).toArray] w (ad7 (EZ y e) w):=by
 have hcl:cs.length=23:=lz;have hel:=yX rB;have E0:(vA e)[0]?=some (.int .i64 e.kind):=rfl;have E19:(vA e)[19]?=some (.int .i64 e.fp):=Gg rB 0;have E20:(vA e)[20]?=some (.int .i64 e.port):=Gg rB 1;have E21:(vA e)[21]?=some (.string (bs e.data)):=Gg rB 2;have Q18:cs[18]?=some (.int .i64 y.port):=by rw[h.hcs];exact zP h.ip 0
 have SE:=J (aeK rB);have SQ:Hid ((cs.drop 0).take 18=y.sv.cells):=J (by rw[h.hcs];exact aak h.ip);have EA:=Ey e.fr y.sv rB h.ip;have FC:=J (fun w' (b:ao w w')=>Mo cs y A c e.data w' (h.G b) hs);have B2:N (((w.alloc (.cells cs.toArray 163)).alloc (.cells (vA e).toArray 69)).alloc (.cells sV.toArray 169)) w.heap.size 163 cs:=((N.new w 163 cs).alloc _).alloc _;have B3:N (((w.alloc (.cells cs.toArray 163)).alloc (.cells (vA e).toArray 69)).alloc (.cells sV.toArray 169)) (w.heap.size+1) 69 (vA e):=(N.uE _ 69 (vA e) _ ar).alloc _;have B4:N (((w.alloc (.cells cs.toArray 163)).alloc (.cells (vA e).toArray 69)).alloc (.cells sV.toArray 169)) (w.heap.size+1+1) 169 sV:=N.uE _ 169 sV _ ar;have HB:Below w.heap.size w (((w.alloc (.cells cs.toArray 163)).alloc (.cells (vA e).toArray 69)).alloc (.cells sV.toArray 169)):=ic;obtain⟨hk,hX⟩:=aq (((w.alloc (.cells cs.toArray 163)).alloc (.cells (vA e).toArray 69)).alloc (.cells sV.toArray 169));have c0:=xN E0;have c19:=xN E19;have c20:=xN E20;have c21:=xN E21;have d18:=xN Q18;obtain⟨P,hP⟩:=aq (EZ y e);rw[hP.out];have PP:Hid (P=if e.kind=2/\e.fr=y.sv/\e.fp=53/\e.port=y.port then vz y (vZ e.data)else(tq.zero,false)):=J (by rw[<-hP.out];rfl);clear h rB hs E0 E19 E20 E21 Q18 hP hX;generalize vz y (vZ e.data)=ahk at*;generalize e.data=dt at*;by_cases O:e.kind=2
 case neg=>have hk':(e.kind !=2)=true:=aZ;have HF:Hid (P=(tq.zero,false)):=J (by rw[PP.out,if_neg (fun h=>O h.1)]);clear O PP FC EA;generalize e.kind=kd at*;generalize vA e=es at*;go_enter func151,ntmps151;go_wp2_with(refine rF (.store 169 (.tmp 4) (.tmp 28)) I (ab I (w.heap.size+1+1) 0 sV B4 cR tn Cv ?_));intro w8 B8 g8 _;replace B8:N w8 (w.heap.size+1+1) 169 sV:=ie;have HB8:=rE HB g8 HB.size Y;clear g8 HB B4;go_wp2_with fail;refine tj I (w.heap.size+1+1) I B8 _ underlying169 I tn I (.bool false) I ?_;rw[HF.out];exact⟨sV,I,sA.zero _,HB8⟩
 rw[O]at c0;generalize vA e=es at*;by_cases hf:e.fr=y.sv
 case neg=>have HF:Hid (P=(tq.zero,false)):=J (by rw[PP.out,if_neg (fun h=>hf h.2.1)]);rw[decide_eq_false hf]at EA;clear O hf PP FC;exact mC
 rw[decide_eq_true hf]at EA;by_cases hp:e.fp=53
 case neg=>
  have hp':(e.fp !=53)=true:=by simpa using hp
  have HF:Hid (P=(tq.zero,false)):=J (by rw[PP.out,if_neg (fun h=>hp h.2.2.1)]);clear O hf hp PP FC;generalize e.fp=fp at*;exact mC
 rw[hp]at c19;by_cases ho:e.port=y.port
 case neg=>
  have ho':(e.port !=y.port)=true:=by simpa using ho
  have HF:Hid (P=(tq.zero,false)):=J (by rw[PP.out,if_neg (fun h=>ho h.2.2.2)]);clear O hf hp ho PP FC;generalize e.port=ep,y.port=yp at*;exact mC
 rw[ho]at c20;have HF:Hid (P=ahk):=J (by rw[PP.out,if_pos ⟨O,hf,hp,ho⟩]);clear O hf hp ho PP;generalize y.port=yp,e.fr.cells=fc,y.sv.cells=sc at*;go_enter func151,ntmps151;go_wp2_with(first
  |(refine rF (.load 67 (.tmp 10)) rfl ?_;go_must(refine vR 67 (.tmp 10) rfl bc (w.heap.size+1) 1 rfl B3 18 Y _ underlying67 rfl EY _ SE.out ?_))
  |(refine rF (.load 67 (.tmp 12)) rfl ?_;go_must(refine vR 67 (.tmp 12) rfl bc w.heap.size 0 rfl B2 18 Y _ underlying67 rfl EY _ SQ.out ?_))
  |(refine rF (.load 163 (.tmp 2)) rfl ?_;go_must(refine rG rfl _ _ rfl w.heap.size 0 rfl B2 23 Y _ underlying163 rfl D7 cs (uH Y) ?_)))
 refine(FC.out _ HB).mono ?_;rintro _ w5 ⟨ds,rfl,hM5,b5⟩;have HB5:=rC HB HB.size b5;have B45:=B4.G b5 B4.lt;have hdl:=hM5.len;have hd1:=J hM5.one;clear b5 FC HB B2 B3 B4 c0 c19 c20 c21 d18 EA SE SQ;go_wp2_with(refine rF (.store 169 (.tmp 4) (.tmp 33)) I (ab I (w.heap.size+1+1) 0 ds B45 cR cQ hd1.out ?_));intro w8 B8 g8 _;replace B8:=Bj B8 cR;have HB8:=rE HB5 g8 HB5.size Y;have hM8:=hM5.sD g8 B45;clear g8 HB5 B45 hM5;go_wp2_with fail;refine tj I (w.heap.size+1+1) I B8 _ underlying169 I cQ I (.bool ahk.2) I ?_;rw[HF.out];exact rl
def qyZ:List Value:=[.int .i64 0,.int .u8 0,.int .u8 0,.int .u8 0,.int .u8 0,.int .u8 0,.int .u8 0,.int .u8 0,.int .u8 0,.int .u8 0,.int .u8 0,.int .u8 0,.int .u8 0,.int .u8 0,.int .u8 0,.int .u8 0,.int .u8 0,.int .i64 0,.int .i64 0,.int .i64 0,.slice none 0 0,.int .i64 0,.int .i64 0]
theorem zI:qyZ.length=23:=rfl
theorem Xp(fam az port id:Int)(q:Qn)(b0 b1 b2 b3 b4 b5 b6 b7 b8 b9 b10 b11 b12 b13 b14 b15:UInt8)(A:Option Addr)(n c:Nat)(W:World):
  (Instr.build 163 #[(0,.agg (sg.cells ⟨fam,[b0,b1,b2,b3,b4,b5,b6,b7,b8,b9,b10,b11,b12,b13,b14,b15],az⟩).toArray),(1,.int .i64 port),(2,.int .i64 id),(3,.agg #[.slice A n c,.int .i64 q.Q,.int .i64 q.cl])]).run prog W= .ok (.agg (yf (.slice A n c) ⟨⟨fam,[b0,b1,b2,b3,b4,b5,b6,b7,b8,b9,b10,b11,b12,b13,b14,b15],az⟩,port,id,q⟩).toArray) W:=by
 kernel_rfl
theorem acN(y:Qy)(h:y.sv.ip.length=16)(A:Option Addr)(n c:Nat)(W:World):
  (Instr.build 163 #[(0,.agg y.sv.cells.toArray),(1,.int .i64 y.port),(2,.int .i64 y.id),(3,.agg #[.slice A n c,.int .i64 y.q.Q,.int .i64 y.q.cl])]).run prog W= .ok (.agg (yf (.slice A n c) y).toArray) W:=by
 obtain⟨⟨fam,ip,az⟩,port,id,q⟩:=y;have h':ip.length=16:=h;clear h;match ip,h' with
 |[b0,b1,b2,b3,b4,b5,b6,b7,b8,b9,b10,b11,b12,b13,b14,b15],_=>exact Xp fam az port id q b0 b1 b2 b3 b4 b5 b6 b7 b8 b9 b10 b11 b12 b13 b14 b15 A n c W
def agG:sg:=⟨4,[1,2,3,4,0,0,0,0,0,0,0,0,0,0,0,0],0⟩
def b25:List UInt8:=[0,7,128,0,0,1,0,0,0,0,0,0,1,97,0,0,1,0,1]
def f25:Ev:=⟨2,agG,54,5000,b25⟩
open Go.ChangeShapes Go.WideShapes Go.ChangeAt Go.RowKit
section
variable {H:Type} {enc:TypeId×Value->H} {w:World} {cs:List Value}
end
end Go.Proofs.YtakkipnmpmobbaaGreat
