/-
  Layer 13,the laws' own:Small.
-/
import Derived.Test.YthnbcmlnpdabhaaGreatHBq
import Derived.Test.YthnbcmlnpdabhaaGreatHJq
import Derived.Test.YthnbcmlnpdabhaaGreatHNq
namespace Go.Proofs.YthnbcmlnpdabhaaGreat
open _root_.Go.Proofs.Tryz
set_option maxHeartbeats 8000000
open Go.RowKit
set_option maxRecDepth 100000
set_option linter.unusedVariables false
set_option linter.unusedSimpArgs false
variable {a b:List UInt8} {k g:Nat} {w w':World} {cs L:List Value}
theorem U6(m:vU)(hw:∀r∈m.Cq,r.wf):
  ((vN m false).2=0/\(vN m true).2=0/\(vN m true).1.length<=(vN m false).1.length/\(vN m false).1.length<=65535/\xN (vN m false).1= .ok m/\xN (vN m true).1= .ok m)\/
  ((vN m false).2≠0/\(vN m true).2=0/\(vN m true).1.length<=65535/\xN (vN m true).1= .ok m)\/
  ((vN m false).2≠0/\(vN m true).2≠0/\(vN m true).1=[]/\(vN m false).1=[]):=by
 by_cases hc:wH m=0
 ·
  have hle:=acb m hw hc;by_cases U:65535<(Eo m true).1.length
  ·have X:65535<(Eo m false).1.length:=I;right;right;rw[Gh true hc U,Gh false hc X];exact⟨az,az,J,J⟩
  ·
   have d1:=S7 m true hw hc I;by_cases X:65535<(Eo m false).1.length
   ·right;left;rw[KF true hc U,Gh false hc X];exact⟨az,J,by show(Eo m true).1.length<=65535;omega,d1⟩
   ·have d2:=S7 m false hw hc I;left;rw[KF true hc U,KF false hc X];exact⟨J,J,hle,by show(Eo m false).1.length<=65535;omega,d2,d1⟩
 ·right;right;rw[Iv true hc,Iv false hc];exact⟨hc,hc,J,J⟩
def GP(c:UInt8):UInt8:=if 65<=c.toNat/\c.toNat<=90 then UInt8.ofNat (c.toNat+32)else c
def yH(l:List UInt8):List UInt8:=l.map GP
def yl(n:List (List UInt8)):List (List UInt8):=n.map yH
theorem Tb{c:UInt8}(h:65<=c.toNat/\c.toNat<=90):(GP c).toNat=c.toNat+32:=by
 unfold GP;rw[if_pos h,UInt8.toNat_ofNat'];omega
theorem Wt{c:UInt8}(h:¬(65<=c.toNat/\c.toNat<=90)):GP c=c:=by unfold GP;rw[if_neg h]
theorem Mu(l:List UInt8):(yH l).length=l.length:=by simp[yH]
theorem Fv(l:List (List UInt8)):(yl l).length=l.length:=by simp[yl]
theorem OP(c:UInt8)(w:World):Calls prog 252 #[.int .u8 (c.toNat:Int)] w (xX (.int .u8 ((GP c).toNat:Int)) w):=by
 have hc:=c.toNat_lt;by_cases h:65<=c.toNat/\c.toNat<=90
 ·have e:=Tb h;rw[e];obtain⟨U,X⟩:=h;have h1':(65:Int)<=c.toNat:=I;have h2':(c.toNat:Int)<=90:=I;clear e U X;generalize c.toNat=k at*;go_enter func252,ntmps252;go_wp2_with fail;go_ret;exact xX.mk (yE I) J
 ·
  rw[Wt h];by_cases U:65<=c.toNat
  ·
   have X:¬c.toNat<=90:=fun X=>h ⟨U,X⟩
   have h1':(65:Int)<=c.toNat:=I;have h2':¬(c.toNat:Int)<=90:=I;clear h U X;generalize c.toNat=k at*;go_enter func252,ntmps252;exact pv
  ·have h1':¬(65:Int)<=c.toNat:=I;clear h U;generalize c.toNat=k at*;go_enter func252,ntmps252;exact pv
theorem acg(ha:k<a.length)(Z:k<b.length)(h:GP a[k]≠GP b[k]):yH a≠yH b:=by
 intro e;have:=congrArg (fun l:List UInt8=>l[k]?) e;simp[yH,ha,Z]at this;exact h this
theorem ach(hl:a.length=b.length)(h:∀i (ha:i<a.length) (Z:i<b.length),GP a[i]=GP b[i]):yH a=yH b:=by
 refine List.ext_getElem (by simp[yH,hl]) fun i U X=>?_
 simp only[yH,List.getElem_map];exact h i (by simpa[yH]using U) (by simpa[yH]using X)
theorem XY(a b:List UInt8)(w:World)(ha:a.length<=maxLen)(Z:b.length<=maxLen):
  Calls prog 242 #[.string (bs a),.string (bs b)] w (uI (.bool (decide (yH a=yH b))) w):=by
 unfold maxLen at ha Z;by_cases hl:a.length=b.length
 case neg=>have hd:decide (yH a=yH b)=false:=decide_eq_false (fun e=>hl (by rw[<-Mu a,<-Mu b,e]));have hl':((a.length:Int) !=(b.length:Int))=true:=aA;rw[hd];clear hd hl;go_enter func242,ntmps242;exact rJ
 have hl':((a.length:Int) !=(b.length:Int))=false:=aA;have HL:=Y hl;obtain⟨q,hqq⟩:=ao (decide (yH a=yH b));rw[hqq.out];clear hl;go_enter func242,ntmps242;go_wp2_with fail;go_loopw[13] (fun iv wr=>∃k:Nat,k<=a.length/\iv= .int .i64 k/\Hid (∀i (U:i<a.length) (X:i<b.length),i<k->GP a[i]=GP b[i])/\al w wr) (fun iv _=>a.length-(intOf iv).toNat)
 case atStart=>exact⟨0,Nat.zero_le _,J,Y (fun i _ _ h=>absurd h I),Below.refl _ _⟩
 obtain⟨k,z,rfl,HE,hB⟩:=hrel;by_cases aB:k<a.length
 case pos=>
  have h1:(k:Int)<a.length:=I;have hlb:k<b.length:=by have:=HL.out;omega
  have S1:=fun w=>OP a[k] w
  have S2:=fun w=>OP b[k] w
  obtain⟨x,hx⟩:=ao ((GP a[k]).toNat);obtain⟨y,hy⟩:=ao ((GP b[k]).toNat);simp only[hx.out]at S1;simp only[hy.out]at S2;have HS1:=Y S1;have HS2:=Y S2;clear S1 S2;by_cases hxy:x=y
  ·
   subst hxy;go_wp2_with fail;go_quiet((go_at_call 252;(first|with_reducible exact xX.quiet (HS1.out _)|with_reducible exact xX.quiet (HS2.out _))));go_wp2_with fail;go_roundw
   case rel=>exact⟨k+1,I,gp,Y (fun i U X h3=>by
    by_cases hi:i=k
    ·subst hi;exact UInt8.toNat_inj.1 (hx.out.trans hy.out.symm)
    ·
     exact HE.out i U X I),below_drewN hB _⟩
   case measure=>simp[intOf];omega
  ·
   obtain rfl:q=false:=by rw[<-hqq.out];refine decide_eq_false (acg aB hlb (fun e=>hxy ?_));rw[<-hx.out,<-hy.out,e]
   have hne:((x:Int) !=(y:Int))=true:=aA;clear hxy hqq;go_wp2_with fail;go_quiet((go_at_call 252;(first|with_reducible exact xX.quiet (HS1.out _)|with_reducible exact xX.quiet (HS2.out _))));go_wp2_with fail;go_ret;exact uI.mk J (below_drewN hB _)
 obtain rfl:k=a.length:=I;have h1:¬(a.length:Int)<a.length:=I;obtain rfl:q=true:=by rw[<-hqq.out];exact decide_eq_true (ach HL.out (fun i U X=>HE.out i U X U))
 clear HE hqq aB z;exact qL
theorem aci{a b:List (List UInt8)}(ha:k<a.length)(Z:k<b.length)(h:yH a[k]≠yH b[k]):yl a≠yl b:=by
 intro e;have:=congrArg (fun l:List (List UInt8)=>l[k]?) e;simp[yl,ha,Z]at this;exact h this
theorem acj{a b:List (List UInt8)}(hl:a.length=b.length)(h:∀i (ha:i<a.length) (Z:i<b.length),yH a[i]=yH b[i]):yl a=yl b:=by
 refine List.ext_getElem (by simp[yl,hl]) fun i U X=>?_
 simp only[yl,List.getElem_map];exact h i (by simpa[yl]using U) (by simpa[yl]using X)
theorem OR(A B:Option Addr)(a b:List (List UInt8))(ca cb:Nat)(w:World)(hA:xE w A ca a)(hB:xE w B cb b):
  Calls prog 218 #[.slice A a.length ca,.slice B b.length cb] w (uI (.bool (decide (yl a=yl b))) w):=by
 obtain⟨tA,cA,lA,mA⟩:=hA;obtain⟨tB,cB,lB,mB⟩:=hB;by_cases hl:a.length=b.length
 case neg=>have hd:decide (yl a=yl b)=false:=decide_eq_false (fun e=>hl (by rw[<-Fv a,<-Fv b,e]));have hl':((a.length:Int) !=(b.length:Int))=true:=aA;rw[hd];clear hd hl;go_enter func218,ntmps218;exact rJ
 have hl':((a.length:Int) !=(b.length:Int))=false:=aA;have HL:=Y hl;obtain⟨q,hqq⟩:=ao (decide (yl a=yl b));rw[hqq.out];clear hl;go_enter func218,ntmps218;go_wp2_with fail;go_loopw[14] (fun iv wr=>∃k:Nat,k<=a.length/\iv= .int .i64 k/\Hid (∀i (U:i<a.length) (X:i<b.length),i<k->yH a[i]=yH b[i])/\al w wr) (fun iv _=>a.length-(intOf iv).toNat)
 case atStart=>exact⟨0,Nat.zero_le _,J,Y (fun i _ _ h=>absurd h I),Below.refl _ _⟩
 obtain⟨k,z,rfl,HE,hB⟩:=hrel;by_cases aB:k<a.length
 case pos=>
  have h1:(k:Int)<a.length:=I;have hlb:k<b.length:=by have:=HL.out;omega
  have asS:(k:Int)<b.length:=I;obtain⟨ba,oa,rfl,la,xa⟩:=tA I;obtain⟨bb,ob,rfl,lb,xb⟩:=tB I;have c1:wr.cell? ⟨ba,oa+k,none⟩=some (.string (bs a[k])):=lG;have c2:wr.cell? ⟨bb,ob+k,none⟩=some (.string (bs b[k])):=(hB.cell (p:=⟨bb,ob+k,none⟩) lb).trans (xb k hlb);have S:=Y (fun w=>XY a[k] b[k] w (by have:=mA _ (List.getElem_mem aB);simp only[maxLen];omega) (by have:=mB _ (List.getElem_mem hlb);simp only[maxLen];omega));obtain⟨s,hs⟩:=ao (decide (yH a[k]=yH b[k]));rw[hs.out]at S;clear xa xb mA mB;go_wp2_with fail;refine(S.out _).mono ?_;rintro _ w1 ⟨rfl,b1⟩;have HB1:=um hB hB.size b1;clear b1 S c1 c2;cases s with
  |false=>
   obtain rfl:q=false:=by rw[<-hqq.out];exact decide_eq_false (aci aB hlb (of_decide_eq_false hs.out))
   clear hqq hs;exact th
  |true=>
   go_wp2_with fail;go_roundw
   case rel=>exact⟨k+1,I,gp,Y (fun i U X h3=>by
    by_cases hi:i=k
    ·subst hi;exact of_decide_eq_true hs.out
    ·
     exact HE.out i U X I),HB1⟩
   case measure=>simp[intOf];omega
 obtain rfl:k=a.length:=I;have h1:¬(a.length:Int)<a.length:=I;obtain rfl:q=true:=by rw[<-hqq.out];exact decide_eq_true (acj HL.out (fun i U X=>HE.out i U X U))
 clear HE hqq aB z tA tB mA mB;exact qL
theorem OS(c:UInt8):vT [c]=[.int .u8 (c.toNat:Int)]:=rfl
theorem Tc(l:List UInt8)(w:World)(hl:l.length<=140737488355328):Calls prog 153 #[.string (bs l)] w (uI (.string (bs (yH l))) w):=by
 go_enter func153,ntmps153;go_wp2_with fail;go_loopw[3,4] (fun v iv wr=>∃k:Nat,k<=l.length/\iv= .int .i64 k/\wr.ownsRow w.heap.size 5 1 v k (vT (yH (l.take k)))/\al w wr) (fun _ iv _=>l.length-(intOf iv).toNat)
 case atStart=>exact⟨0,Nat.zero_le _,J,World.ownsRow_nil _ _ _ _,Below.refl _ _⟩
 obtain⟨k,z,rfl,Z,hB⟩:=hrel;obtain⟨A,c,hv⟩:=ya Z;subst hv;by_cases aB:k<l.length
 case pos=>
  have h1:(k:Int)<l.length:=I;have hc:=(l[k]).toNat_lt;by_cases h:65<=(l[k]).toNat/\(l[k]).toNat<=90
  ·
   have HX:Hid (((GP l[k]).toNat:Int)=(l[k].toNat:Int)+32):=Y (by rw[Tb h];omega);obtain⟨U,X⟩:=h;have h1':(65:Int)<=(l[k]).toNat:=I;have h2':((l[k]).toNat:Int)<=90:=I;clear U X;go_wp2_with(at_builtin;go_must(refine Bo _ J (.tmp 23) (.tmp 25) 145 J 5 (.int .u8 0) 1 1 underlying145 DJ J az w.heap.size _ k _ J (World.ownsRow.alloc Z _) aT ⟨wr.heap.size,0,none⟩ 1 1 [.int .u8 ((l[k].toNat:Int)+32)] J J (Cg _ _ _ _ J) (zO J) az aK I ?_));intro g2 akm w2 hb2 ahw agS;have hB2:=xV (hB.alloc hB.size _) aT (Z.alloc _) ahw;have hb3:w2.ownsRow w.heap.size 5 1 (.slice (some ⟨g2,0,none⟩) (k+1) akm) (k+1) (vT (yH (l.take (k+1)))):=by
    have e:vT (yH (l.take (k+1)))=vT (yH (l.take k))++[.int .u8 ((l[k].toNat:Int)+32)]:=by rw[List.take_succ_eq_append_getElem aB];simp only[yH,List.map_append,Bl,List.map_cons,List.map_nil,OS];rw[HX.out]
    rw[e];exact hb2
   clear Z hb2 ahw hB;exact qg
  ·
   have HX:Hid (((GP l[k]).toNat:Int)=(l[k].toNat:Int)):=Y (by rw[Wt h]);by_cases U:65<=(l[k]).toNat
   ·
    have X:¬(l[k]).toNat<=90:=fun X=>h ⟨U,X⟩
    have h1':(65:Int)<=(l[k]).toNat:=I;have h2':¬((l[k]).toNat:Int)<=90:=I;clear h U X;exact pq
   ·have h1':¬(65:Int)<=(l[k]).toNat:=I;clear h U;exact pq
 obtain rfl:k=l.length:=I;have h1:¬(l.length:Int)<l.length:=I;have ht:l.take l.length=l:=kt;rw[ht]at Z;have hb2:wr.ownsRow w.heap.size 5 1 (.slice A l.length c) (yH l).length (vT (yH l)):=by rw[Mu];exact Z
 have hcv:=JL hb2;clear ht Z hb2;exact qL
def aau(n:List (List UInt8))(w:World)(e:Ending)(w':World):Prop:=∃v,e= .returned v/\wO w' v n/\al w w'
theorem J0(A:Option Addr)(c:Nat)(n:List (List UInt8))(w:World)(hA:xE w A c n)(hn:n.length<=8000000000000):Calls prog 102 #[.slice A n.length c] w (aau (yl n) w):=by
 obtain⟨tA,cA,lA,mA⟩:=hA;unfold aau;go_enter func102,ntmps102;go_wp2_with fail;go_loopw[3,4] (fun v iv wr=>∃k:Nat,k<=n.length/\iv= .int .i64 k/\wr.ownsRow w.heap.size 9 1 v k ((yl (n.take k)).map fun t=>Value.string (bs t))/\al w wr) (fun _ iv _=>n.length-(intOf iv).toNat)
 case atStart=>exact⟨0,Nat.zero_le _,J,World.ownsRow_nil _ _ _ _,Below.refl _ _⟩
 obtain⟨k,z,rfl,Z,hB⟩:=hrel;obtain⟨A',c',hv⟩:=ya Z;subst hv;by_cases aB:k<n.length
 case pos=>
  have h1:(k:Int)<n.length:=I;obtain⟨ba,oa,rfl,la,xa⟩:=tA I;have c1:wr.cell? ⟨ba,oa+k,none⟩=some (.string (bs n[k])):=lG;have S:=Y (fun w=>Tc n[k] w (mA _ (List.getElem_mem aB)));have HX:Hid (yl (n.take (k+1))=yl (n.take k)++[yH n[k]]):=Y (by rw[List.take_succ_eq_append_getElem aB];simp only[yl,List.map_append,List.map_cons,List.map_nil]);clear xa;generalize yH n[k]=t at*;go_wp2_with fail;refine(S.out _).mono ?_;rintro _ w1 ⟨rfl,b1⟩;have hb1:=wC Z b1;have hB1:=um hB hB.size b1;clear S b1 c1 Z hB;go_wp2_with(at_builtin;go_must(refine Bo _ J (.tmp 11) (.tmp 17) 25 J 9 (.string ⟨#[]⟩) 1 16 underlying25 Ei J az w.heap.size _ k _ J (World.ownsRow.alloc hb1 _) dH ⟨w1.heap.size,0,none⟩ 1 1 [.string (bs t)] J J (Cg _ _ _ _ J) (zO J) az aK I ?_));intro g2 akm w2 hb2 ahw agS;have hB2:=xV (hB1.alloc hB1.size _) dH (hb1.alloc _) ahw;have hb3:w2.ownsRow w.heap.size 9 1 (.slice (some ⟨g2,0,none⟩) (k+1) akm) (k+1) ((yl (n.take (k+1))).map fun t=>Value.string (bs t)):=by rw[HX.out,List.map_append];exact hb2
  clear hb1 hb2 ahw hB1 HX;exact qg
 obtain rfl:k=n.length:=I;have h1:¬(n.length:Int)<n.length:=I;have ht:n.take n.length=n:=kt;rw[ht]at Z;have hb2:wO wr (.slice A' n.length c') (yl n):=by unfold wO;rw[Fv];exact⟨Z.1,Z.2.imp id (fun⟨g,cap,cur,U,_,h3⟩=>⟨g,cap,cur,U,Nat.zero_le _,h3⟩)⟩
 clear ht Z;go_wp2_with fail;go_ret;exact⟨_,J,hb2,hB⟩
theorem J1(A B:Option Addr)(a b:List (List UInt8))(ca cb:Nat)(w:World)(hA:xE w A ca a)(hB:xE w B cb b)(ha:a.length<=8000000000000)(Z:b.length<=8000000000000):
  Calls prog 56 #[.slice A a.length ca,.slice B b.length cb] w (uI (.bool (decide (yl a=yl b))) w):=by
 have L1:=Y (J0 A ca a w hA ha);have L2:=Y (fun w' (q:al w w')=>J0 B cb b w' (hB.G q) Z);have la:=Fv a;have lb:=Fv b;have ka:=hA.2.2.1;have kb:=hB.2.2.1;generalize yl a=a' at*;generalize yl b=b' at*;have LA:=Y la;have LB:=Y lb;clear la lb hA hB ha Z;go_enter func56,ntmps56;go_wp2_with fail;refine L1.out.mono ?_;rintro _ w1 ⟨v1,rfl,t1,b1⟩;obtain⟨A1,c1,hv,-,-⟩:=t1.form;subst hv;clear L1;go_wp2_with fail;refine(L2.out _ b1).mono ?_;rintro _ w2 ⟨v2,rfl,t2,b2⟩;obtain⟨A2,c2,hv,-,-⟩:=t2.form;subst hv;have ty:=um b1 b1.size b2;replace t1:=t1.G b2;obtain⟨_,_,e1,r1,-⟩:=t1.form;obtain⟨_,_,e2,r2,-⟩:=t2.form;injection e1 with e11 e12 e13;injection e2 with e21 e22 e23;subst e11 e13 e21 e23;have afz:=Y (AV A1 A2 a' b' c1 c2 w2 r1 r2 (by have:=LA.out;omega) (by have:=LB.out;omega));clear b1 b2 L2 t1 t2 r1 r2 e12 e22;go_wp2_with fail;refine afz.out.mono ?_;rintro _ w3 ⟨rfl,b3⟩;have HB3:=um ty ty.size b3;clear b3;go_wp2_with fail;go_ret;exact uI.mk J HB3
structure Qy where
 sv:vG
 port:Int
 id:Int
 q:Qn
def xY(vn:Value)(y:Qy):List Value:=y.sv.cells++[.int .i64 y.port,.int .i64 y.id,vn,.int .i64 y.q.O,.int .i64 y.q.N]
structure Ho (w:World) (cs:List Value) (y:Qy) (A:Option Addr) (c:Nat):Prop where
 hS:cs=xY (.slice A y.q.name.length c) y
 ip:y.sv.ip.length=16
 nm:xE w A c y.q.name
theorem Ho.G{y:Qy}{A:Option Addr}{c:Nat}(h:Ho w cs y A c)(Z:al w w'):Ho w' cs y A c:=⟨h.hS,h.ip,h.nm.G Z⟩
section
variable {vn:Value} {y:Qy}
theorem wU(h:y.sv.ip.length=16):(xY vn y).length=23:=by simp[xY,y.sv.uT h]
theorem Qe(h:y.sv.ip.length=16):((xY vn y).drop 0).take 18=y.sv.cells:=by rw[List.drop_zero];unfold xY;exact List.take_left' (y.sv.uT h)
theorem zd(h:y.sv.ip.length=16)(k:Nat):(xY vn y)[18+k]?=[Value.int .i64 y.port,.int .i64 y.id,vn,.int .i64 y.q.O,.int .i64 y.q.N][k]?:=by
 unfold xY;rw[List.getElem?_append_right dI,y.sv.uT h,Nat.add_sub_cancel_left]
theorem OT(h:y.sv.ip.length=16):((xY vn y).drop 20).take 3=qC vn y.q:=by
 have e:(xY vn y).drop 20=(([Value.int .i64 y.port,.int .i64 y.id,vn,.int .i64 y.q.O,.int .i64 y.q.N]:List Value)).drop 2:=by unfold xY;rw[show(20:Nat)=y.sv.cells.length+2 by rw[y.sv.uT h],List.drop_append];simp
 rw[e];rfl
theorem IG(h:vn.oneCell'=true):∀v∈xY vn y,v.oneCell'=true:=by
 intro v hv;rcases List.mem_append.1 hv with hv|hv
 ·exact y.sv.xW v hv
 ·simp only[List.mem_cons,List.not_mem_nil,or_false]at hv;rcases hv with rfl|rfl|rfl|rfl|rfl<;>first|rfl|exact h
end
def XZ(x y:Qn):Bool:=decide (x.O=y.O)&&(decide (x.N=y.N)&&decide (yl x.name=yl y.name))
def zv(y:Qy)(m:vU):Bool:=m.hd.qr&&(decide (m.hd.op=0)&&(decide (m.hd.id=y.id)&&match m.qs with
 |[x]=>XZ x y.q
 |_=>false))
theorem U7{y:Qy}{m:vU}{x:Qn}(h:m.qs=[x]):zv y m=(m.hd.qr&&(decide (m.hd.op=0)&&(decide (m.hd.id=y.id)&&XZ x y.q))):=by unfold zv;rw[h]
theorem X5{y:Qy}{m:vU}(h:m.qs.length≠1):zv y m=false:=by
 unfold zv;cases hq:m.qs with
 |nil=>simp
 |cons x l=>
  cases l with
  |nil=>rw[hq]at h;simp at h
  |cons abx l=>simp
theorem X6(cs ds:List Value)(y:Qy)(m:vU)(A:Option Addr)(c:Nat)(Aq Aa Au Ae:Option Addr)(cq ca cu ce:Nat)(w:World)(U:Ho w cs y A c)(X:zB w ds m Aq Aa Au Ae cq ca cu ce):
  Calls prog 180 #[.agg cs.toArray,.agg ds.toArray] w (uI (.bool (zv y m)) w):=by
 obtain⟨t1,ht1⟩:∃t1:TypeId,t1=37:=gG;have h2:=U.ip;have L19:cs[19]?=some (.int .i64 y.id):=ny;have L20:cs[20]?=some (.slice A y.q.name.length c):=nx;have L21:cs[21]?=some (.int .i64 y.q.O):=nw;have L22:cs[22]?=some (.int .i64 y.q.N):=np;have M0:ds[0]?=some (.int .i64 m.hd.id):=iU;have M1:ds[1]?=some (.bool m.hd.qr):=iU;have M2:ds[2]?=some (.int .i64 m.hd.op):=iU;have M10:ds[10]?=some (.slice Aq m.qs.length cq):=iU;have hq:=X.hq;have B2:=F.wE (w.alloc (.cells cs.toArray t1)) 50 ds (w.heap.size+1) ap;have B1:=(F.new w t1 cs).alloc (.cells ds.toArray 50);have HB:Below w.heap.size w ((w.alloc (.cells cs.toArray t1)).alloc (.cells ds.toArray 50)):=gJ;have a19:=B1.M 19 L19;have a20:=B1.M 20 L20;have a21:=B1.M 21 L21;have a22:=B1.M 22 L22;have d0:=B2.M 0 M0;have d1:=B2.M 1 M1;have d2:=B2.M 2 M2;have d10:=B2.M 10 M10;subst ht1;obtain⟨aeI,hO⟩:=ao (zv y m);rw[hO.out];have hN:=Y U.nm;have HQ:=Y hq;clear U X h2 L19 L20 L21 L22 M0 M1 M2 M10 hq;cases hqr:m.hd.qr with
 |false=>obtain rfl:aeI=false:=lK;rw[hqr]at d1;clear hqr hO;go_enter func180,ntmps180;exact pg
 |true=>
 rw[hqr]at d1;by_cases hop:m.hd.op=0
 case neg=>
  obtain rfl:aeI=false:=kq;have axO:(m.hd.op !=0)=true:=by simpa using hop
  clear hqr hO hop;go_enter func180,ntmps180;exact pg
 rw[hop]at d2;by_cases hid:m.hd.id=y.id
 case neg=>
  obtain rfl:aeI=false:=kr;have ax8:(m.hd.id !=y.id)=true:=by simpa using hid
  clear hqr hO hop hid;go_enter func180,ntmps180;exact pg
 by_cases hll:m.qs.length=1
 case neg=>obtain rfl:aeI=false:=mz;have apu:((m.qs.length:Int) !=1)=true:=aA;rw[hid]at d0;clear hqr hO hop hid hll;go_enter func180,ntmps180;exact pg
 obtain⟨x,hx⟩:=List.length_eq_one_iff.1 hll;have HQ':QsR w Aq [x]:=hx▸HQ.out;obtain⟨ba,oa,eA,hba,hel⟩:=HQ' ap;subst eA;obtain⟨An,cn,hr,hNx⟩:=hel 0 ap;have hrg:=uD hr HB hba;have hOf:XZ x y.q=aeI:=jw;have HOF:=Y hOf;rw[hid]at d0;rw[hll]at d10;replace hrg:((w.alloc (.cells cs.toArray 37)).alloc (.cells ds.toArray 50)).rangeAt ba oa [.slice An x.name.length cn,.int .i64 x.O,.int .i64 x.N]:=hrg;have SM:=Y (fun w' (b:al w w')=>OR An A x.name y.q.name cn c w' (hNx.G b) (hN.out.G b));have e20:∀o:Obj,(((w.alloc (.cells cs.toArray 37)).alloc (.cells ds.toArray 50)).alloc o).cell? ⟨w.heap.size,20,none⟩=some (.slice A y.q.name.length c):=fun o=>((B1.alloc o).cell 20).trans ((B1.cell 20).symm.trans a20)
 have e21:∀o:Obj,(((w.alloc (.cells cs.toArray 37)).alloc (.cells ds.toArray 50)).alloc o).cell? ⟨w.heap.size,21,none⟩=some (.int .i64 y.q.O):=fun o=>((B1.alloc o).cell 21).trans ((B1.cell 21).symm.trans a21)
 have e22:∀o:Obj,(((w.alloc (.cells cs.toArray 37)).alloc (.cells ds.toArray 50)).alloc o).cell? ⟨w.heap.size,22,none⟩=some (.int .i64 y.q.N):=fun o=>((B1.alloc o).cell 22).trans ((B1.cell 22).symm.trans a22)
 have HB3:∀o:Obj,Below w.heap.size w (((w.alloc (.cells cs.toArray 37)).alloc (.cells ds.toArray 50)).alloc o):=fun o=>HB.alloc aA _
 have anT:=Y HB3;clear hqr hO hop hid hll hx HQ' hel hr HQ hN hNx hOf HB3 a20 a21 a22 B1 B2 hba HB;unfold XZ at HOF;generalize y.q.O=O,y.q.N=N at*;generalize x.O=xt,x.N=xl at*;by_cases hty:xt=O
 case neg=>obtain rfl:aeI=false:=jq;have akM:(xt==O)=false:=jg;clear hty HOF SM;exact qQ
 by_cases hcl:xl=N
 case neg=>obtain rfl:aeI=false:=jl;have akM:(xt==O)=true:=jg;have al5:(xl==N)=false:=jx;clear hty hcl HOF SM;exact qQ
 have akM:(xt==O)=true:=jg;have al5:(xl==N)=true:=jx;obtain⟨s,hs⟩:=ao (decide (yl x.name=yl y.q.name));rw[hs.out]at SM;have hOs:=HOF.out;rw[hs.out,decide_eq_true hty,decide_eq_true hcl]at hOs;obtain rfl:s=aeI:=hOs;clear hty hcl HOF hs;go_enter func180,ntmps180;go_wp2_with(refine ur (.load 28 (.tmp 32)) J ?_;go_must(refine wpList_load_mid J 28 (.tmp 32) J ba oa J _ _ hrg underlying28 J xu ?_));refine(SM.out _ (anT.out _)).mono ?_;rintro _ w5 ⟨rfl,b5⟩;have HB5:=um (anT.out _) (anT.out _).size b5;clear b5 SM;go_wp2_with fail;go_ret;exact uI.mk J HB5
theorem vf.vj{m:vU}(h:vf w cs m)(hg:w.grownBy w' (some g))(Z:F w g 50 L):vf w' cs m:=by
 obtain⟨vq,va,vu,ve,U,X,h3,h4,h5,l⟩:=h;exact⟨vq,va,vu,ve,U,X.vj hg Z az az,h3.vj hg Z az az,h4.vj hg Z az az,h5.vj hg Z az az,l⟩
def xh(y:Qy)(o:Except Int vU):vU×Bool:=match o with
 | .ok m=>if zv y m then(m,true)else(vU.zero,false)
 | .error _=>(vU.zero,false)
def Td(p:vU×Bool)(w:World)(e:Ending)(w':World):Prop:=∃ds,e= .returned (.tuple #[.agg ds.toArray,.bool p.2])/\vf w' ds p.1/\al w w'
theorem Dy:(prog.info? 37).map (·.size)=some 23:=by kernel_rfl
theorem Ez{n:Nat}{ul:List Value}(h:F w g 50 (L++ul.drop n))(hM:ul.length<=n):F w g 50 L:=by
 exact rV
theorem OU(cs:List Value)(y:Qy)(A:Option Addr)(c:Nat)(s:List UInt8)(w:World)(h:Ho w cs y A c)(hs:s.length<=maxLen):
  Calls prog 119 #[.agg cs.toArray,.string (bs s)] w (Td (xh y (xN s)) w):=by
 have hcl:cs.length=23:=jj;have D:=Y (fun w=>SZ s w hs);have hQ:=Y (fun w' (b:al w w')=>h.G b);have C1:F ((w.alloc (.cells cs.toArray 37)).alloc (.cells uX.toArray 50)) w.heap.size 37 cs:=(F.new w 37 cs).alloc _;have C4:F ((w.alloc (.cells cs.toArray 37)).alloc (.cells uX.toArray 50)) (w.heap.size+1) 50 uX:=lj;have CB:Below w.heap.size w ((w.alloc (.cells cs.toArray 37)).alloc (.cells uX.toArray 50)):=gJ;obtain⟨aeI,hO⟩:=ao (xN s);rw[hO.out]at D⊢;clear h hO hs;go_enter func119,ntmps119;go_wp2_with fail;refine(D.out _).mono ?_;rintro _ w3 ⟨ds,m,x,rfl,hM3,b3,hx⟩;have B1:=C1.G b3 C1.lt;have B4:=C4.G b3 C4.lt;have HB3:=um CB CB.size b3;have hdl:=hM3.len;have hd1:=Y hM3.one;clear b3 C1 C4 CB D;go_wp2_with(refine ur (.store 50 (.tmp 6) (.tmp 11)) J (ab J w3.heap.size 0 ds (F.wE _ _ uX _ J) dJ dK hd1.out ?_));intro w4 B7 g4 _;replace B7:=Ez B7 dL;have k4:al w3 w4:=j4;have HB4:=um HB3 HB3.size k4;replace B1:=B1.G k4 B1.lt;replace B4:=B4.G k4 B4.lt;have hM4:=hM3.G k4;have hgr:w.heap.size<=w.heap.size+1:=I;have hrl:=zF;clear g4 k4 hM3 HB3;generalize w3.heap.size=gd at*;generalize w.heap.size+1=gr at*;rcases hx with⟨rfl,hO⟩|⟨hx,hO,rfl⟩
 case inr=>have hx':(x !=0)=true:=iR;have HF:Hid (xh y aeI=(vU.zero,false)):=Y (by rw[hO];rfl);clear hx hO hM4 B1 B7 hQ;exact pk
 have RC:Hid (Calls prog 180 #[.agg cs.toArray,.agg ds.toArray] w4 (uI (.bool (zv y m)) w4)):=Y (by
  obtain⟨_,_,_,_,_,_,_,_,U⟩:=hM4.is;exact X6 cs ds y m A c _ _ _ _ _ _ _ _ w4 (hQ.out _ HB4) U)
 go_wp2_with(first
  |(refine ur (.load 37 (.tmp 2)) rfl ?_;go_must(refine vE 37 (.tmp 2) rfl bp w.heap.size 0 rfl B1 23 I _ underlying37 rfl Dy cs (wP I) ?_))
  |(refine ur (.load 50 (.tmp 6)) rfl ?_;go_must(refine vE 50 (.tmp 6) rfl bp gd 0 rfl B7 14 I _ underlying50 rfl uW ds (wP I) ?_)))
 refine RC.out.mono ?_;rintro _ w5 ⟨rfl,b5⟩;have HB5:=um HB4 HB4.size b5;have B75:=B7.G b5 B7.lt;have B45:=B4.G b5 B4.lt;have hM5:=hM4.G b5;clear b5 RC B1 HB4 B7 B4 hM4 hQ;cases hr:zv y m with
 |false=>have HF:Hid (xh y aeI=(vU.zero,false)):=Y dM;have HB4:=HB5;have B4:=B45;clear hr hO HB5 B45 B75 hM5;exact pk
 |true=>
  have HF:Hid (xh y aeI=(m,true)):=Y dM;clear hr hO;go_wp2_with(first
   |(refine ur (.load 50 (.tmp 6)) rfl ?_;go_must(refine uu rfl _ _ rfl gd 0 rfl B75 14 I _ underlying50 rfl uW ds (wP I) ?_))
   |(refine ur (.store 50 (.tmp 4) (.tmp 22)) rfl (ab rfl gr 0 ds B45 I dK hd1.out ?_)))
  exact qx
structure Ev where
 kind:Int
 fr:vG
 fp:Int
 port:Int
 data:List UInt8
def yj(e:Ev):List Value:=.int .i64 e.kind::(e.fr.cells++[.int .i64 e.fp,.int .i64 e.port,.string (bs e.data)])
theorem Dk{e:Ev}(h:e.fr.ip.length=16):(yj e).length=22:=by simp[yj,e.fr.uT h]
theorem aav{e:Ev}(h:e.fr.ip.length=16):((yj e).drop 1).take 18=e.fr.cells:=by
 show(e.fr.cells++_).take 18=_;exact List.take_left' (e.fr.uT h)
theorem CZ{e:Ev}(h:e.fr.ip.length=16)(k:Nat):(yj e)[19+k]?=[Value.int .i64 e.fp,.int .i64 e.port,.string (bs e.data)][k]?:=by
 unfold yj;rw[show 19+k=(18+k)+1 by omega,List.getElem?_cons_succ,List.getElem?_append_right (by rw[e.fr.uT h];omega),e.fr.uT h,Nat.add_sub_cancel_left]
theorem xL:(prog.info? 24).map (·.size)=some 18:=by kernel_rfl
def Dm(y:Qy)(e:Ev):vU×Bool:=if e.kind=2/\e.fr=y.sv/\e.fp=53/\e.port=y.port then xh y (xN e.data)else(vU.zero,false)
theorem U8(cs:List Value)(y:Qy)(A:Option Addr)(c:Nat)(e:Ev)(w:World)(h:Ho w cs y A c)(h2:e.fr.ip.length=16)(hs:e.data.length<=maxLen):
  Calls prog 228 #[.agg cs.toArray,.agg (yj e).toArray] w (Td (Dm y e) w):=by
 have hcl:cs.length=23:=jj;have hel:=Dk h2;have E0:(yj e)[0]?=some (.int .i64 e.kind):=rfl;have E19:(yj e)[19]?=some (.int .i64 e.fp):=CZ h2 0;have E20:(yj e)[20]?=some (.int .i64 e.port):=CZ h2 1;have E21:(yj e)[21]?=some (.string (bs e.data)):=CZ h2 2;have Q18:cs[18]?=some (.int .i64 y.port):=nA;have SE:=Y (aav h2);have SQ:Hid ((cs.drop 0).take 18=y.sv.cells):=Y dN;have EA:=FL e.fr y.sv h2 h.ip;have FC:=Y (fun w' (b:al w w')=>OU cs y A c e.data w' (h.G b) hs);have B2:F (((w.alloc (.cells cs.toArray 37)).alloc (.cells (yj e).toArray 42)).alloc (.cells uX.toArray 50)) w.heap.size 37 cs:=((F.new w 37 cs).alloc _).alloc _;have B3:F (((w.alloc (.cells cs.toArray 37)).alloc (.cells (yj e).toArray 42)).alloc (.cells uX.toArray 50)) (w.heap.size+1) 42 (yj e):=oJ;have B4:F (((w.alloc (.cells cs.toArray 37)).alloc (.cells (yj e).toArray 42)).alloc (.cells uX.toArray 50)) (w.heap.size+1+1) 50 uX:=lj;have HB:Below w.heap.size w (((w.alloc (.cells cs.toArray 37)).alloc (.cells (yj e).toArray 42)).alloc (.cells uX.toArray 50)):=iV;obtain⟨afz,hX⟩:=ao (((w.alloc (.cells cs.toArray 37)).alloc (.cells (yj e).toArray 42)).alloc (.cells uX.toArray 50));have c0:=xO E0;have c19:=xO E19;have c20:=xO E20;have c21:=xO E21;have d18:=xO Q18;obtain⟨P,hP⟩:=ao (Dm y e);rw[hP.out];have PP:Hid (P=if e.kind=2/\e.fr=y.sv/\e.fp=53/\e.port=y.port then xh y (xN e.data)else(vU.zero,false)):=Y dO;clear h h2 hs E0 E19 E20 E21 Q18 hP hX;generalize xh y (xN e.data)=agH at*;generalize e.data=dt at*;by_cases z:e.kind=2
 case neg=>have hk':(e.kind !=2)=true:=bh;have HF:Hid (P=(vU.zero,false)):=Y dP;clear z PP FC EA;generalize e.kind=kd at*;generalize yj e=es at*;go_enter func228,ntmps228;go_wp2_with(refine ur (.store 50 (.tmp 4) (.tmp 28)) J (ab J (w.heap.size+1+1) 0 uX B4 dL uW xy ?_));exact pa
 rw[z]at c0;generalize yj e=es at*;by_cases hf:e.fr=y.sv
 case neg=>
  have HF:Hid (P=(vU.zero,false)):=Y dQ;rw[decide_eq_false hf]at EA;clear z hf PP FC;generalize e.fr.cells=fc,y.sv.cells=sc at*;go_enter func228,ntmps228;go_wp2_with(first
   |(refine ur (.load 24 (.tmp 10)) rfl ?_;go_must(refine vE 24 (.tmp 10) rfl bp (w.heap.size+1) 1 rfl B3 18 I _ underlying24 rfl xL _ SE.out ?_))
   |(refine ur (.load 24 (.tmp 12)) rfl ?_;go_must(refine vE 24 (.tmp 12) rfl bp w.heap.size 0 rfl B2 18 I _ underlying24 rfl xL _ SQ.out ?_))
   |(refine ur (.store 50 (.tmp 4) (.tmp 28)) rfl (ab rfl (w.heap.size+1+1) 0 uX B4 dL uW xy ?_)))
  exact pa
 rw[decide_eq_true hf]at EA;by_cases hp:e.fp=53
 case neg=>
  have hp':(e.fp !=53)=true:=by simpa using hp
  have HF:Hid (P=(vU.zero,false)):=Y dR;clear z hf hp PP FC;generalize e.fp=fp,e.fr.cells=fc,y.sv.cells=sc at*;go_enter func228,ntmps228;go_wp2_with(first
   |(refine ur (.load 24 (.tmp 10)) rfl ?_;go_must(refine vE 24 (.tmp 10) rfl bp (w.heap.size+1) 1 rfl B3 18 I _ underlying24 rfl xL _ SE.out ?_))
   |(refine ur (.load 24 (.tmp 12)) rfl ?_;go_must(refine vE 24 (.tmp 12) rfl bp w.heap.size 0 rfl B2 18 I _ underlying24 rfl xL _ SQ.out ?_))
   |(refine ur (.store 50 (.tmp 4) (.tmp 28)) rfl (ab rfl (w.heap.size+1+1) 0 uX B4 dL uW xy ?_)))
  exact pa
 rw[hp]at c19;by_cases ho:e.port=y.port
 case neg=>
  have ho':(e.port !=y.port)=true:=by simpa using ho
  have HF:Hid (P=(vU.zero,false)):=Y dS;clear z hf hp ho PP FC;generalize e.port=ep,y.port=yp at*;generalize e.fr.cells=fc,y.sv.cells=sc at*;go_enter func228,ntmps228;go_wp2_with(first
   |(refine ur (.load 24 (.tmp 10)) rfl ?_;go_must(refine vE 24 (.tmp 10) rfl bp (w.heap.size+1) 1 rfl B3 18 I _ underlying24 rfl xL _ SE.out ?_))
   |(refine ur (.load 24 (.tmp 12)) rfl ?_;go_must(refine vE 24 (.tmp 12) rfl bp w.heap.size 0 rfl B2 18 I _ underlying24 rfl xL _ SQ.out ?_))
   |(refine ur (.store 50 (.tmp 4) (.tmp 28)) rfl (ab rfl (w.heap.size+1+1) 0 uX B4 dL uW xy ?_)))
  exact pa
 rw[ho]at c20;have HF:Hid (P=agH):=Y dT;clear z hf hp ho PP;generalize y.port=yp,e.fr.cells=fc,y.sv.cells=sc at*;go_enter func228,ntmps228;go_wp2_with(first
  |(refine ur (.load 24 (.tmp 10)) rfl ?_;go_must(refine vE 24 (.tmp 10) rfl bp (w.heap.size+1) 1 rfl B3 18 I _ underlying24 rfl xL _ SE.out ?_))
  |(refine ur (.load 24 (.tmp 12)) rfl ?_;go_must(refine vE 24 (.tmp 12) rfl bp w.heap.size 0 rfl B2 18 I _ underlying24 rfl xL _ SQ.out ?_))
  |(refine ur (.load 37 (.tmp 2)) rfl ?_;go_must(refine uu rfl _ _ rfl w.heap.size 0 rfl B2 23 I _ underlying37 rfl Dy cs (wP I) ?_)))
 refine(FC.out _ HB).mono ?_;rintro _ w5 ⟨ds,rfl,hM5,b5⟩;have HB5:=um HB HB.size b5;have B45:=B4.G b5 B4.lt;have hdl:=hM5.len;have hd1:=Y hM5.one;clear b5 FC HB B2 B3 B4 c0 c19 c20 c21 d18 EA SE SQ;go_wp2_with(refine ur (.store 50 (.tmp 4) (.tmp 33)) J (ab J (w.heap.size+1+1) 0 ds B45 dL dK hd1.out ?_));exact qt
def EP:List Value:=[.int .i64 0,.int .u8 0,.int .u8 0,.int .u8 0,.int .u8 0,.int .u8 0,.int .u8 0,.int .u8 0,.int .u8 0,.int .u8 0,.int .u8 0,.int .u8 0,.int .u8 0,.int .u8 0,.int .u8 0,.int .u8 0,.int .u8 0,.int .i64 0,.int .i64 0,.int .i64 0,.slice none 0 0,.int .i64 0,.int .i64 0]
theorem AH:EP.length=23:=rfl
theorem X7(fam hk port id:Int)(q:Qn)(b0 b1 b2 b3 b4 b5 b6 b7 b8 b9 b10 b11 b12 b13 b14 b15:UInt8)(A:Option Addr)(n c:Nat)(W:World):
  (Instr.build 37 #[(0,.agg (vG.cells ⟨fam,[b0,b1,b2,b3,b4,b5,b6,b7,b8,b9,b10,b11,b12,b13,b14,b15],hk⟩).toArray),(1,.int .i64 port),(2,.int .i64 id),(3,.agg #[.slice A n c,.int .i64 q.O,.int .i64 q.N])]).run prog W= .ok (.agg (xY (.slice A n c) ⟨⟨fam,[b0,b1,b2,b3,b4,b5,b6,b7,b8,b9,b10,b11,b12,b13,b14,b15],hk⟩,port,id,q⟩).toArray) W:=by
 kernel_rfl
theorem ack(y:Qy)(h:y.sv.ip.length=16)(A:Option Addr)(n c:Nat)(W:World):
  (Instr.build 37 #[(0,.agg y.sv.cells.toArray),(1,.int .i64 y.port),(2,.int .i64 y.id),(3,.agg #[.slice A n c,.int .i64 y.q.O,.int .i64 y.q.N])]).run prog W= .ok (.agg (xY (.slice A n c) y).toArray) W:=by
 obtain⟨⟨fam,ip,hk⟩,port,id,q⟩:=y;have h':ip.length=16:=h;clear h;match ip,h' with
 |[b0,b1,b2,b3,b4,b5,b6,b7,b8,b9,b10,b11,b12,b13,b14,b15],_=>exact X7 fam hk port id q b0 b1 b2 b3 b4 b5 b6 b7 b8 b9 b10 b11 b12 b13 b14 b15 A n c W
theorem Dz:(prog.info? 30).map (·.size)=some 23:=by kernel_rfl
theorem Qf(cs ds:List Value)(y:Qy)(m:vU)(A:Option Addr)(c:Nat)(Aq Aa Au Ae:Option Addr)(cq ca cu ce:Nat)(w:World)(U:Ho w cs y A c)(X:zB w ds m Aq Aa Au Ae cq ca cu ce)(hsm:vB y.q.name<=1000)(hsq:∀x∈m.qs,vB x.name<=1000):
  Calls prog 79 #[.agg cs.toArray,.agg ds.toArray] w (uI (.bool (zv y m)) w):=by
 obtain⟨t1,ht1⟩:∃t1:TypeId,t1=30:=gG;have h2:=U.ip;have hl1:cs.length=23:=by rw[U.hS];exact wU h2
 have L19:cs[19]?=some (.int .i64 y.id):=ny;have L20:cs[20]?=some (.slice A y.q.name.length c):=nx;have L21:cs[21]?=some (.int .i64 y.q.O):=nw;have L22:cs[22]?=some (.int .i64 y.q.N):=np;have M0:ds[0]?=some (.int .i64 m.hd.id):=iU;have M1:ds[1]?=some (.bool m.hd.qr):=iU;have M2:ds[2]?=some (.int .i64 m.hd.op):=iU;have M10:ds[10]?=some (.slice Aq m.qs.length cq):=iU;have hq:=X.hq;have B2:=F.wE (w.alloc (.cells cs.toArray t1)) 50 ds (w.heap.size+1) ap;have B1:=(F.new w t1 cs).alloc (.cells ds.toArray 50);have HB:Below w.heap.size w ((w.alloc (.cells cs.toArray t1)).alloc (.cells ds.toArray 50)):=gJ;have a19:=B1.M 19 L19;have a20:=B1.M 20 L20;have a21:=B1.M 21 L21;have a22:=B1.M 22 L22;have d0:=B2.M 0 M0;have d1:=B2.M 1 M1;have d2:=B2.M 2 M2;have d10:=B2.M 10 M10;subst ht1;obtain⟨aeI,hO⟩:=ao (zv y m);rw[hO.out];have hN:=Y U.nm;have HQ:=Y hq;have aud:=L20;have hq3:(cs.drop 20).take 3=[.slice A y.q.name.length c,.int .i64 y.q.O,.int .i64 y.q.N]:=by rw[U.hS];exact OT h2
 clear U X h2 L19 L20 L21 L22 M0 M1 M2 M10 hq;cases hqr:m.hd.qr with
 |false=>obtain rfl:aeI=false:=lK;rw[hqr]at d1;clear hqr hO;go_enter func79,ntmps79;exact pg
 |true=>
 rw[hqr]at d1;by_cases hop:m.hd.op=0
 case neg=>
  obtain rfl:aeI=false:=kq;have axO:(m.hd.op !=0)=true:=by simpa using hop
  clear hqr hO hop;go_enter func79,ntmps79;exact pg
 rw[hop]at d2;by_cases hid:m.hd.id=y.id
 case neg=>
  obtain rfl:aeI=false:=kr;have ax8:(m.hd.id !=y.id)=true:=by simpa using hid
  clear hqr hO hop hid;go_enter func79,ntmps79;exact pg
 by_cases hll:m.qs.length=1
 case neg=>obtain rfl:aeI=false:=mz;have apu:((m.qs.length:Int) !=1)=true:=aA;rw[hid]at d0;clear hqr hO hop hid hll;go_enter func79,ntmps79;exact pg
 obtain⟨x,hx⟩:=List.length_eq_one_iff.1 hll;have HQ':QsR w Aq [x]:=hx▸HQ.out;obtain⟨ba,oa,eA,hba,hel⟩:=HQ' ap;subst eA;obtain⟨An,cn,hr,hNx⟩:=hel 0 ap;have hbw:=hba;have hrg:=uD hr HB hba;have hOf:XZ x y.q=aeI:=jw;have HOF:=Y hOf;rw[hid]at d0;rw[hll]at d10;replace hrg:((w.alloc (.cells cs.toArray 30)).alloc (.cells ds.toArray 50)).rangeAt ba oa [.slice An x.name.length cn,.int .i64 x.O,.int .i64 x.N]:=hrg;have hsx:vB x.name<=1000:=hsq x (by rw[hx];simp);have SM:=Y (fun w' (b:al w w')=>J1 An A x.name y.q.name cn c w' (hNx.G b) (hN.out.G b) (by have:=z9 x.name;omega) (by have:=z9 y.q.name;omega));have L20:=Y aud;have HC:=Y (show cs.length=23 from hl1);have agp:=Y (show(cs.drop 20).take 3=[.slice A y.q.name.length c,.int .i64 y.q.O,.int .i64 y.q.N]from hq3);clear hqr hO hop hid hll hx HQ' hel hr HQ hN hNx hOf a20 a21 a22 hba hl1 hsm hsq hsx hq3 aud;unfold XZ at HOF;generalize y.q.O=O,y.q.N=N at*;generalize x.O=xt,x.N=xl at*;obtain⟨s,hs⟩:=ao (decide (yl x.name=yl y.q.name));rw[hs.out]at SM HOF;clear hs;generalize y.q.name.length=nl,x.name.length=xn at*;go_enter func79,ntmps79;go_wp2_with fail;obtain⟨W,hW⟩:∃W,W=(w.alloc (.cells cs.toArray 30)).alloc (.cells ds.toArray 50):=gG;rw[<-hW]at B1 B2 HB hrg d10⊢;clear hW d0 d1 d2 a19;refine wp_region_held_drew (S:=fun V=>al W V) (by kernel_rfl) (Below.refl _ _).drew (fun K=>?_)
 (refine ag 0 (some 31) J J (by kernel_rfl) (fun W hW=>rfl) K ?_;simp only[E])
 refine vK 1 (some 32) 47 (.tmp 31) ⟨w.heap.size+1,10,none⟩ J J J J (by kernel_rfl) (by kernel_rfl) (by kernel_rfl) (fun _ _ _ h=>h) (by kernel_rfl) (fun V hV=>uB underlying47 J ((hV.cell (p:=⟨w.heap.size+1,10,none⟩) B2.lt).trans d10)) K ?_;simp only[E];refine ag 2 (some 33) (v:=.pointer (some ⟨ba,oa,none⟩)) J J (by kernel_rfl) (fun V hV=>by go_simp) K ?_;simp only[E];refine vK 3 (some 34) 28 (.tmp 33) ⟨ba,oa,none⟩ J J J J (by kernel_rfl) (by kernel_rfl) (by kernel_rfl) (fun _ _ _ h=>h) (by kernel_rfl) (fun V hV=>run_loadAt_mid V ba oa 28 [.slice An xn cn,.int .i64 xt,.int .i64 xl] _ (uD hrg hV (Nat.lt_of_lt_of_le hbw HB.size)) underlying28 J xu) K ?_;simp only[E]
 (refine ag 4 (some 35) J J (by kernel_rfl) (fun W hW=>rfl) K ?_;simp only[E])
 refine vK 5 (some 36) 28 (.tmp 35) ⟨w.heap.size,20,none⟩ J J J J (by kernel_rfl) (by kernel_rfl) (by kernel_rfl) (fun _ _ _ h=>h) (by kernel_rfl) (fun V hV=>(B1.G hV B1.lt).wS 28 20 3 (by rw[HC.out];omega) _ underlying28 J xu _ agp.out) K ?_;simp only[E];have HBw:=Y HB;refine yi 6 7 (by kernel_rfl) ?_ ?_
 ·
  refine vz 6 (some 5) (v:=.pointer (some ⟨W.heap.size,0,none⟩)) (w':=W.drew.alloc (.cells qZ.toArray 28)) J J (by kernel_rfl) (by kernel_rfl) ?_;have bb1:Below W.heap.size W (W.drew.alloc (.cells qZ.toArray 28)):=lN;refine⟨bb1,?_⟩;simp only[E];refine uO 7 (by kernel_rfl) ?_;refine vz 7 (some 6) (v:=.pointer (some ⟨(W.drew.alloc (.cells qZ.toArray 28)).heap.size,0,none⟩)) (w':=(W.drew.alloc (.cells qZ.toArray 28)).alloc (.cells qZ.toArray 28)) J J (by kernel_rfl) (by kernel_rfl) ?_;have bb2:Below W.heap.size W ((W.drew.alloc (.cells qZ.toArray 28)).alloc (.cells qZ.toArray 28)):=bb1.alloc bb1.size _;refine⟨bb2,?_⟩;simp only[E];have E1:F ((W.drew.alloc (.cells qZ.toArray 28)).alloc (.cells qZ.toArray 28)) W.heap.size 28 qZ:=(F.new W.drew 28 qZ).alloc _;have E2:F ((W.drew.alloc (.cells qZ.toArray 28)).alloc (.cells qZ.toArray 28)) (W.drew.alloc (.cells qZ.toArray 28)).heap.size 28 qZ:=F.new _ 28 qZ;have hne:W.heap.size<(W.drew.alloc (.cells qZ.toArray 28)).heap.size:=by exact sy
  have C5:=E1;have C6:=E2;refine wu 8 none 28 (.tmp 5) (.tmp 34) (by kernel_rfl) J J J (by kernel_rfl) (W.heap.size) 0 J [.slice An xn cn,.int .i64 xt,.int .i64 xl] J C5 cH xu aP ?_;intro wx D5 g5 s5;replace D5:F wx (W.heap.size) 28 [.slice An xn cn,.int .i64 xt,.int .i64 xl]:=by simpa[qZ]using D5
  have D6:=C6.grown g5 dU;have bx:al W wx:=uq bb2 g5 bb2.size I;refine⟨bx,?_⟩;simp only[E];refine wu 9 none 28 (.tmp 6) (.tmp 36) (by kernel_rfl) J J J (by kernel_rfl) ((W.drew.alloc (.cells qZ.toArray 28)).heap.size) 0 J [.slice A nl c,.int .i64 O,.int .i64 N] J D6 cH xu aP ?_;intro wz F6 g6 s6;replace F6:F wz ((W.drew.alloc (.cells qZ.toArray 28)).heap.size) 28 [.slice A nl c,.int .i64 O,.int .i64 N]:=by simpa[qZ]using F6
  have F5:=D5.grown g6 dU;have bz:al W wz:=uq bx g6 bx.size I;have HBz:=um HBw.out HBw.out.size bz;refine⟨bz,?_⟩;clear K C5 C6 D5 D6 E1 E2 g5 g6 bb1 bb2 bx s5 s6 B1 B2 hrg HB;have K:=bz;have C5:=F5;have C6:=F6;clear F5 F6;generalize(W.drew.alloc (.cells qZ.toArray 28)).heap.size=h6 at*;generalize W.heap.size=h5 at*;simp only[E];refine wpAnyH_done (by kernel_rfl) ?_ _;clear K;have p0:=C5.M 0 J;have p1:=C5.M 1 J;have p2:=C5.M 2 J;have r0:=C6.M 0 J;have r1:=C6.M 1 J;have r2:=C6.M 2 J;go_wp2_with fail;refine(SM.out _ HBz).mono ?_;rintro _ w9 ⟨rfl,b9⟩;have HB9:=um HBz HBz.size b9;have D5:=C5.G b9 C5.lt;have D6:=C6.G b9 C6.lt;clear p0 p1 p2 r0 r1 r2 b9;have p1:=D5.M 1 J;have p2:=D5.M 2 J;have r1:=D6.M 1 J;have r2:=D6.M 2 J;cases s with
  |false=>obtain rfl:aeI=false:=oM;clear HOF SM C5 C6 D5 D6;exact pw
  |true=>
  by_cases hty:xt=O
  case neg=>obtain rfl:aeI=false:=jq;have akM:(xt==O)=false:=jg;clear HOF SM C5 C6 D5 D6 hty;exact pw
  have akM:(xt==O)=true:=jg;by_cases hcl:xl=N
  case neg=>obtain rfl:aeI=false:=jl;have al5:(xl==N)=false:=jx;clear HOF SM C5 C6 D5 D6 hty hcl;exact pw
  have al5:(xl==N)=true:=jx;obtain rfl:aeI=true:=kx;clear HOF SM C5 C6 D5 D6 hty hcl;exact pw
 ·
  refine vz 7 (some 6) (v:=.pointer (some ⟨W.heap.size,0,none⟩)) (w':=W.drew.alloc (.cells qZ.toArray 28)) J J (by kernel_rfl) (by kernel_rfl) ?_;have bb1:Below W.heap.size W (W.drew.alloc (.cells qZ.toArray 28)):=lN;refine⟨bb1,?_⟩;simp only[E];refine uO 6 (by kernel_rfl) ?_;refine vz 6 (some 5) (v:=.pointer (some ⟨(W.drew.alloc (.cells qZ.toArray 28)).heap.size,0,none⟩)) (w':=(W.drew.alloc (.cells qZ.toArray 28)).alloc (.cells qZ.toArray 28)) J J (by kernel_rfl) (by kernel_rfl) ?_;have bb2:Below W.heap.size W ((W.drew.alloc (.cells qZ.toArray 28)).alloc (.cells qZ.toArray 28)):=bb1.alloc bb1.size _;refine⟨bb2,?_⟩;simp only[E];have E1:F ((W.drew.alloc (.cells qZ.toArray 28)).alloc (.cells qZ.toArray 28)) W.heap.size 28 qZ:=(F.new W.drew 28 qZ).alloc _;have E2:F ((W.drew.alloc (.cells qZ.toArray 28)).alloc (.cells qZ.toArray 28)) (W.drew.alloc (.cells qZ.toArray 28)).heap.size 28 qZ:=F.new _ 28 qZ;have hne:W.heap.size<(W.drew.alloc (.cells qZ.toArray 28)).heap.size:=by exact sy
  have C5:=E2;have C6:=E1;refine wu 8 none 28 (.tmp 5) (.tmp 34) (by kernel_rfl) J J J (by kernel_rfl) ((W.drew.alloc (.cells qZ.toArray 28)).heap.size) 0 J [.slice An xn cn,.int .i64 xt,.int .i64 xl] J C5 cH xu aP ?_;intro wx D5 g5 s5;replace D5:F wx ((W.drew.alloc (.cells qZ.toArray 28)).heap.size) 28 [.slice An xn cn,.int .i64 xt,.int .i64 xl]:=by simpa[qZ]using D5
  have D6:=C6.grown g5 dU;have bx:al W wx:=uq bb2 g5 bb2.size I;refine⟨bx,?_⟩;simp only[E];refine wu 9 none 28 (.tmp 6) (.tmp 36) (by kernel_rfl) J J J (by kernel_rfl) (W.heap.size) 0 J [.slice A nl c,.int .i64 O,.int .i64 N] J D6 cH xu aP ?_;intro wz F6 g6 s6;replace F6:F wz (W.heap.size) 28 [.slice A nl c,.int .i64 O,.int .i64 N]:=by simpa[qZ]using F6
  have F5:=D5.grown g6 dU;have bz:al W wz:=uq bx g6 bx.size I;have HBz:=um HBw.out HBw.out.size bz;refine⟨bz,?_⟩;clear K C5 C6 D5 D6 E1 E2 g5 g6 bb1 bb2 bx s5 s6 B1 B2 hrg HB;have K:=bz;have C5:=F5;have C6:=F6;clear F5 F6;generalize(W.drew.alloc (.cells qZ.toArray 28)).heap.size=h6 at*;generalize W.heap.size=h5 at*;simp only[E];refine wpAnyH_done (by kernel_rfl) ?_ _;clear K;have p0:=C5.M 0 J;have p1:=C5.M 1 J;have p2:=C5.M 2 J;have r0:=C6.M 0 J;have r1:=C6.M 1 J;have r2:=C6.M 2 J;go_wp2_with fail;refine(SM.out _ HBz).mono ?_;rintro _ w9 ⟨rfl,b9⟩;have HB9:=um HBz HBz.size b9;have D5:=C5.G b9 C5.lt;have D6:=C6.G b9 C6.lt;clear p0 p1 p2 r0 r1 r2 b9;have p1:=D5.M 1 J;have p2:=D5.M 2 J;have r1:=D6.M 1 J;have r2:=D6.M 2 J;cases s with
  |false=>obtain rfl:aeI=false:=oM;clear HOF SM C5 C6 D5 D6;exact pw
  |true=>
  by_cases hty:xt=O
  case neg=>obtain rfl:aeI=false:=jq;have akM:(xt==O)=false:=jg;clear HOF SM C5 C6 D5 D6 hty;exact pw
  have akM:(xt==O)=true:=jg;by_cases hcl:xl=N
  case neg=>obtain rfl:aeI=false:=jl;have al5:(xl==N)=false:=jx;clear HOF SM C5 C6 D5 D6 hty hcl;exact pw
  have al5:(xl==N)=true:=jx;obtain rfl:aeI=true:=kx;clear HOF SM C5 C6 D5 D6 hty hcl;exact pw
def afI:vG:=⟨4,[1,2,3,4,0,0,0,0,0,0,0,0,0,0,0,0],0⟩
def b25:List UInt8:=[0,7,128,0,0,1,0,0,0,0,0,0,1,97,0,0,1,0,1]
def f25:Ev:=⟨2,afI,54,5000,b25⟩
open Go.ChangeShapes Go.WideShapes Go.ChangeAt Go.RowKit
section
variable {H:Type} {enc:TypeId×Value->H} {w:World} {cs:List Value}
end
end Go.Proofs.YthnbcmlnpdabhaaGreat
