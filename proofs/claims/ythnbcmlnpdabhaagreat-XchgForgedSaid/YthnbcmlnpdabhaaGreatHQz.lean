/-
  Layer 13,the laws' own:Small.
-/
import Derived.Test.YthnbcmlnpdabhaaGreatHBz
import Derived.Test.YthnbcmlnpdabhaaGreatHJz
import Derived.Test.YthnbcmlnpdabhaaGreatHNz
namespace Go.Proofs.YthnbcmlnpdabhaaGreat
open _root_.Go.Proofs.Tryz
set_option maxHeartbeats 8000000
open Go.RowKit
set_option maxRecDepth 100000
set_option linter.unusedVariables false
set_option linter.unusedSimpArgs false
variable {a b:List UInt8} {k g:Nat} {w w':World} {cs L:List Value}
theorem Ud(m:vo)(hw:∀r∈m.BD,r.wf):
  ((vg m false).2=0/\(vg m true).2=0/\(vg m true).1.length<=(vg m false).1.length/\(vg m false).1.length<=65535/\xo (vg m false).1= .ok m/\xo (vg m true).1= .ok m)\/
  ((vg m false).2≠0/\(vg m true).2=0/\(vg m true).1.length<=65535/\xo (vg m true).1= .ok m)\/
  ((vg m false).2≠0/\(vg m true).2≠0/\(vg m true).1=[]/\(vg m false).1=[]):=by
 by_cases hc:vU m=0
 ·
  have hle:=abm m hw hc;by_cases U:65535<(DJ m true).1.length
  ·have X:65535<(DJ m false).1.length:=I;right;right;rw[Fj true hc U,Fj false hc X];exact⟨ax,ax,J,J⟩
  ·
   have d1:=Rp m true hw hc I;by_cases X:65535<(DJ m false).1.length
   ·right;left;rw[J1 true hc U,Fj false hc X];exact⟨ax,J,by show(DJ m true).1.length<=65535;omega,d1⟩
   ·have d2:=Rp m false hw hc I;left;rw[J1 true hc U,J1 false hc X];exact⟨J,J,hle,by show(DJ m false).1.length<=65535;omega,d2,d1⟩
 ·right;right;rw[Hs true hc,Hs false hc];exact⟨hc,hc,J,J⟩
def F8(c:UInt8):UInt8:=if 65<=c.toNat/\c.toNat<=90 then UInt8.ofNat (c.toNat+32)else c
def yj(l:List UInt8):List UInt8:=l.map F8
def xL(n:List (List UInt8)):List (List UInt8):=n.map yj
theorem Ru{c:UInt8}(h:65<=c.toNat/\c.toNat<=90):(F8 c).toNat=c.toNat+32:=by
 unfold F8;rw[if_pos h,UInt8.toNat_ofNat'];omega
theorem Vv{c:UInt8}(h:¬(65<=c.toNat/\c.toNat<=90)):F8 c=c:=by unfold F8;rw[if_neg h]
theorem Lw(l:List UInt8):(yj l).length=l.length:=by simp[yj]
theorem EJ(l:List (List UInt8)):(xL l).length=l.length:=by simp[xL]
theorem Oa(c:UInt8)(w:World):Calls prog 252 #[.int .u8 (c.toNat:Int)] w (yi (.int .u8 ((F8 c).toNat:Int)) w):=by
 have hc:=c.toNat_lt;by_cases h:65<=c.toNat/\c.toNat<=90
 ·have e:=Ru h;rw[e];obtain⟨U,X⟩:=h;have h1':(65:Int)<=c.toNat:=I;have h2':(c.toNat:Int)<=90:=I;clear e U X;generalize c.toNat=k at*;go_enter func252,ntmps252;go_wp2_with fail;go_ret;exact yi.mk (yf I) J
 ·
  rw[Vv h];by_cases U:65<=c.toNat
  ·
   have X:¬c.toNat<=90:=fun X=>h ⟨U,X⟩
   have h1':(65:Int)<=c.toNat:=I;have h2':¬(c.toNat:Int)<=90:=I;clear h U X;generalize c.toNat=k at*;go_enter func252,ntmps252;exact oU
  ·have h1':¬(65:Int)<=c.toNat:=I;clear h U;generalize c.toNat=k at*;go_enter func252,ntmps252;exact oU
theorem abq(ha:k<a.length)(F:k<b.length)(h:F8 a[k]≠F8 b[k]):yj a≠yj b:=by
 intro e;have:=congrArg (fun l:List UInt8=>l[k]?) e;simp[yj,ha,F]at this;exact h this
theorem abr(hl:a.length=b.length)(h:∀i (ha:i<a.length) (F:i<b.length),F8 a[i]=F8 b[i]):yj a=yj b:=by
 refine List.ext_getElem (by simp[yj,hl]) fun i U X=>?_
 simp only[yj,List.getElem_map];exact h i (by simpa[yj]using U) (by simpa[yj]using X)
theorem WU(a b:List UInt8)(w:World)(ha:a.length<=maxLen)(F:b.length<=maxLen):
  Calls prog 242 #[.string (bs a),.string (bs b)] w (uf (.bool (decide (yj a=yj b))) w):=by
 unfold maxLen at ha F;by_cases hl:a.length=b.length
 case neg=>have hd:decide (yj a=yj b)=false:=decide_eq_false (fun e=>hl (by rw[<-Lw a,<-Lw b,e]));have hl':((a.length:Int) !=(b.length:Int))=true:=az;rw[hd];clear hd hl;go_enter func242,ntmps242;exact qV
 have hl':((a.length:Int) !=(b.length:Int))=false:=az;have HL:=Y hl;obtain⟨q,hqq⟩:=ao (decide (yj a=yj b));rw[hqq.out];clear hl;go_enter func242,ntmps242;go_wp2_with fail;go_loopw[13] (fun iv wr=>∃k:Nat,k<=a.length/\iv= .int .i64 k/\Hid (∀i (U:i<a.length) (X:i<b.length),i<k->F8 a[i]=F8 b[i])/\al w wr) (fun iv _=>a.length-(intOf iv).toNat)
 case atStart=>exact⟨0,Nat.zero_le _,J,Y (fun i _ _ h=>absurd h I),Below.refl _ _⟩
 obtain⟨k,O,rfl,HE,hB⟩:=hrel;by_cases Hh:k<a.length
 case pos=>
  have tQ:(k:Int)<a.length:=I;have hlb:k<b.length:=by have:=HL.out;omega
  have S1:=fun w=>Oa a[k] w
  have S2:=fun w=>Oa b[k] w
  obtain⟨x,hx⟩:=ao ((F8 a[k]).toNat);obtain⟨y,hy⟩:=ao ((F8 b[k]).toNat);simp only[hx.out]at S1;simp only[hy.out]at S2;have HS1:=Y S1;have HS2:=Y S2;clear S1 S2;by_cases hxy:x=y
  ·
   subst hxy;go_wp2_with fail;go_quiet((go_at_call 252;(first|with_reducible exact yi.quiet (HS1.out _)|with_reducible exact yi.quiet (HS2.out _))));go_wp2_with fail;go_roundw
   case rel=>exact⟨k+1,I,fU,Y (fun i U X h3=>by
    by_cases hi:i=k
    ·subst hi;exact UInt8.toNat_inj.1 (hx.out.trans hy.out.symm)
    ·
     exact HE.out i U X I),below_drewN hB _⟩
   case measure=>simp[intOf];omega
  ·
   obtain rfl:q=false:=by rw[<-hqq.out];refine decide_eq_false (abq Hh hlb (fun e=>hxy ?_));rw[<-hx.out,<-hy.out,e]
   have hne:((x:Int) !=(y:Int))=true:=az;clear hxy hqq;go_wp2_with fail;go_quiet((go_at_call 252;(first|with_reducible exact yi.quiet (HS1.out _)|with_reducible exact yi.quiet (HS2.out _))));go_wp2_with fail;go_ret;exact uf.mk J (below_drewN hB _)
 obtain rfl:k=a.length:=I;have tQ:¬(a.length:Int)<a.length:=I;obtain rfl:q=true:=by rw[<-hqq.out];exact decide_eq_true (abr HL.out (fun i U X=>HE.out i U X U))
 clear HE hqq Hh O;exact qi
theorem abt{a b:List (List UInt8)}(ha:k<a.length)(F:k<b.length)(h:yj a[k]≠yj b[k]):xL a≠xL b:=by
 intro e;have:=congrArg (fun l:List (List UInt8)=>l[k]?) e;simp[xL,ha,F]at this;exact h this
theorem abu{a b:List (List UInt8)}(hl:a.length=b.length)(h:∀i (ha:i<a.length) (F:i<b.length),yj a[i]=yj b[i]):xL a=xL b:=by
 refine List.ext_getElem (by simp[xL,hl]) fun i U X=>?_
 simp only[xL,List.getElem_map];exact h i (by simpa[xL]using U) (by simpa[xL]using X)
theorem Ob(A B:Option Addr)(a b:List (List UInt8))(ca cb:Nat)(w:World)(hA:xj w A ca a)(hB:xj w B cb b):
  Calls prog 218 #[.slice A a.length ca,.slice B b.length cb] w (uf (.bool (decide (xL a=xL b))) w):=by
 obtain⟨tA,cA,lA,mA⟩:=hA;obtain⟨tB,cB,lB,mB⟩:=hB;by_cases hl:a.length=b.length
 case neg=>have hd:decide (xL a=xL b)=false:=decide_eq_false (fun e=>hl (by rw[<-EJ a,<-EJ b,e]));have hl':((a.length:Int) !=(b.length:Int))=true:=az;rw[hd];clear hd hl;go_enter func218,ntmps218;exact qV
 have hl':((a.length:Int) !=(b.length:Int))=false:=az;have HL:=Y hl;obtain⟨q,hqq⟩:=ao (decide (xL a=xL b));rw[hqq.out];clear hl;go_enter func218,ntmps218;go_wp2_with fail;go_loopw[14] (fun iv wr=>∃k:Nat,k<=a.length/\iv= .int .i64 k/\Hid (∀i (U:i<a.length) (X:i<b.length),i<k->yj a[i]=yj b[i])/\al w wr) (fun iv _=>a.length-(intOf iv).toNat)
 case atStart=>exact⟨0,Nat.zero_le _,J,Y (fun i _ _ h=>absurd h I),Below.refl _ _⟩
 obtain⟨k,O,rfl,HE,hB⟩:=hrel;by_cases Hh:k<a.length
 case pos=>
  have tQ:(k:Int)<a.length:=I;have hlb:k<b.length:=by have:=HL.out;omega
  have ar1:(k:Int)<b.length:=I;obtain⟨ba,oa,rfl,la,xa⟩:=tA I;obtain⟨bb,ob,rfl,lb,xb⟩:=tB I;have c1:wr.cell? ⟨ba,oa+k,none⟩=some (.string (bs a[k])):=kY;have c2:wr.cell? ⟨bb,ob+k,none⟩=some (.string (bs b[k])):=(hB.cell (p:=⟨bb,ob+k,none⟩) lb).trans (xb k hlb);have S:=Y (fun w=>WU a[k] b[k] w (by have:=mA _ (List.getElem_mem Hh);simp only[maxLen];omega) (by have:=mB _ (List.getElem_mem hlb);simp only[maxLen];omega));obtain⟨s,hs⟩:=ao (decide (yj a[k]=yj b[k]));rw[hs.out]at S;clear xa xb mA mB;go_wp2_with fail;refine(S.out _).mono ?_;rintro _ w1 ⟨rfl,b1⟩;have HB1:=tL hB hB.size b1;clear b1 S c1 c2;cases s with
  |false=>
   obtain rfl:q=false:=by rw[<-hqq.out];exact decide_eq_false (abt Hh hlb (of_decide_eq_false hs.out))
   clear hqq hs;exact sH
  |true=>
   go_wp2_with fail;go_roundw
   case rel=>exact⟨k+1,I,fU,Y (fun i U X h3=>by
    by_cases hi:i=k
    ·subst hi;exact of_decide_eq_true hs.out
    ·
     exact HE.out i U X I),HB1⟩
   case measure=>simp[intOf];omega
 obtain rfl:k=a.length:=I;have tQ:¬(a.length:Int)<a.length:=I;obtain rfl:q=true:=by rw[<-hqq.out];exact decide_eq_true (abu HL.out (fun i U X=>HE.out i U X U))
 clear HE hqq Hh O tA tB mA mB;exact qi
theorem Oc(c:UInt8):vl [c]=[.int .u8 (c.toNat:Int)]:=rfl
theorem Rv(l:List UInt8)(w:World)(hl:l.length<=140737488355328):Calls prog 153 #[.string (bs l)] w (uf (.string (bs (yj l))) w):=by
 go_enter func153,ntmps153;go_wp2_with fail;go_loopw[3,4] (fun v iv wr=>∃k:Nat,k<=l.length/\iv= .int .i64 k/\wr.ownsRow w.heap.size 5 1 v k (vl (yj (l.take k)))/\al w wr) (fun _ iv _=>l.length-(intOf iv).toNat)
 case atStart=>exact⟨0,Nat.zero_le _,J,World.ownsRow_nil _ _ _ _,Below.refl _ _⟩
 obtain⟨k,O,rfl,F,hB⟩:=hrel;obtain⟨A,c,hv⟩:=yg F;subst hv;by_cases Hh:k<l.length
 case pos=>
  have tQ:(k:Int)<l.length:=I;have hc:=(l[k]).toNat_lt;by_cases h:65<=(l[k]).toNat/\(l[k]).toNat<=90
  ·
   have HX:Hid (((F8 l[k]).toNat:Int)=(l[k].toNat:Int)+32):=Y (by rw[Ru h];omega);obtain⟨U,X⟩:=h;have h1':(65:Int)<=(l[k]).toNat:=I;have h2':((l[k]).toNat:Int)<=90:=I;clear U X;go_wp2_with(at_builtin;go_must(refine AE _ J (.tmp 23) (.tmp 25) 145 J 5 (.int .u8 0) 1 1 underlying145 Da J ax w.heap.size _ k _ J (World.ownsRow.alloc F _) aS ⟨wr.heap.size,0,none⟩ 1 1 [.int .u8 ((l[k].toNat:Int)+32)] J J (Bf _ _ _ _ J) (zm J) ax aJ I ?_));intro g2 ajx w2 hb2 agM af8;have hB2:=xC (hB.alloc hB.size _) aS (F.alloc _) agM;have hb3:w2.ownsRow w.heap.size 5 1 (.slice (some ⟨g2,0,none⟩) (k+1) ajx) (k+1) (vl (yj (l.take (k+1)))):=by
    have e:vl (yj (l.take (k+1)))=vl (yj (l.take k))++[.int .u8 ((l[k].toNat:Int)+32)]:=by rw[List.take_succ_eq_append_getElem Hh];simp only[yj,List.map_append,AB,List.map_cons,List.map_nil,Oc];rw[HX.out]
    rw[e];exact hb2
   clear F hb2 agM hB;exact pI
  ·
   have HX:Hid (((F8 l[k]).toNat:Int)=(l[k].toNat:Int)):=Y (by rw[Vv h]);by_cases U:65<=(l[k]).toNat
   ·
    have X:¬(l[k]).toNat<=90:=fun X=>h ⟨U,X⟩
    have h1':(65:Int)<=(l[k]).toNat:=I;have h2':¬((l[k]).toNat:Int)<=90:=I;clear h U X;exact oN
   ·have h1':¬(65:Int)<=(l[k]).toNat:=I;clear h U;exact oN
 obtain rfl:k=l.length:=I;have tQ:¬(l.length:Int)<l.length:=I;have ht:l.take l.length=l:=jY;rw[ht]at F;have hb2:wr.ownsRow w.heap.size 5 1 (.slice A l.length c) (yj l).length (vl (yj l)):=by rw[Lw];exact F
 have hcv:=Ji hb2;clear ht F hb2;exact qi
def ZB(n:List (List UInt8))(w:World)(e:Ending)(w':World):Prop:=∃v,e= .returned v/\wh w' v n/\al w w'
theorem Jv(A:Option Addr)(c:Nat)(n:List (List UInt8))(w:World)(hA:xj w A c n)(hn:n.length<=8000000000000):Calls prog 102 #[.slice A n.length c] w (ZB (xL n) w):=by
 obtain⟨tA,cA,lA,mA⟩:=hA;unfold ZB;go_enter func102,ntmps102;go_wp2_with fail;go_loopw[3,4] (fun v iv wr=>∃k:Nat,k<=n.length/\iv= .int .i64 k/\wr.ownsRow w.heap.size 9 1 v k ((xL (n.take k)).map fun t=>Value.string (bs t))/\al w wr) (fun _ iv _=>n.length-(intOf iv).toNat)
 case atStart=>exact⟨0,Nat.zero_le _,J,World.ownsRow_nil _ _ _ _,Below.refl _ _⟩
 obtain⟨k,O,rfl,F,hB⟩:=hrel;obtain⟨A',c',hv⟩:=yg F;subst hv;by_cases Hh:k<n.length
 case pos=>
  have tQ:(k:Int)<n.length:=I;obtain⟨ba,oa,rfl,la,xa⟩:=tA I;have c1:wr.cell? ⟨ba,oa+k,none⟩=some (.string (bs n[k])):=kY;have S:=Y (fun w=>Rv n[k] w (mA _ (List.getElem_mem Hh)));have HX:Hid (xL (n.take (k+1))=xL (n.take k)++[yj n[k]]):=Y (by rw[List.take_succ_eq_append_getElem Hh];simp only[xL,List.map_append,List.map_cons,List.map_nil]);clear xa;generalize yj n[k]=t at*;go_wp2_with fail;refine(S.out _).mono ?_;rintro _ w1 ⟨rfl,b1⟩;have hb1:=vQ F b1;have hB1:=tL hB hB.size b1;clear S b1 c1 F hB;go_wp2_with(at_builtin;go_must(refine AE _ J (.tmp 11) (.tmp 17) 25 J 9 (.string ⟨#[]⟩) 1 16 underlying25 DB J ax w.heap.size _ k _ J (World.ownsRow.alloc hb1 _) dG ⟨w1.heap.size,0,none⟩ 1 1 [.string (bs t)] J J (Bf _ _ _ _ J) (zm J) ax aJ I ?_));intro g2 ajx w2 hb2 agM af8;have hB2:=xC (hB1.alloc hB1.size _) dG (hb1.alloc _) agM;have hb3:w2.ownsRow w.heap.size 9 1 (.slice (some ⟨g2,0,none⟩) (k+1) ajx) (k+1) ((xL (n.take (k+1))).map fun t=>Value.string (bs t)):=by rw[HX.out,List.map_append];exact hb2
  clear hb1 hb2 agM hB1 HX;exact pI
 obtain rfl:k=n.length:=I;have tQ:¬(n.length:Int)<n.length:=I;have ht:n.take n.length=n:=jY;rw[ht]at F;have hb2:wh wr (.slice A' n.length c') (xL n):=by unfold wh;rw[EJ];exact⟨F.1,F.2.imp id (fun⟨g,cap,cur,U,_,h3⟩=>⟨g,cap,cur,U,Nat.zero_le _,h3⟩)⟩
 clear ht F;go_wp2_with fail;go_ret;exact⟨_,J,hb2,hB⟩
theorem Jw(A B:Option Addr)(a b:List (List UInt8))(ca cb:Nat)(w:World)(hA:xj w A ca a)(hB:xj w B cb b)(ha:a.length<=8000000000000)(F:b.length<=8000000000000):
  Calls prog 56 #[.slice A a.length ca,.slice B b.length cb] w (uf (.bool (decide (xL a=xL b))) w):=by
 have L1:=Y (Jv A ca a w hA ha);have L2:=Y (fun w' (q:al w w')=>Jv B cb b w' (hB.G q) F);have la:=EJ a;have lb:=EJ b;have ka:=hA.2.2.1;have kb:=hB.2.2.1;generalize xL a=a' at*;generalize xL b=b' at*;have LA:=Y la;have LB:=Y lb;clear la lb hA hB ha F;go_enter func56,ntmps56;go_wp2_with fail;refine L1.out.mono ?_;rintro _ w1 ⟨v1,rfl,t1,b1⟩;obtain⟨A1,c1,hv,-,-⟩:=t1.form;subst hv;clear L1;go_wp2_with fail;refine(L2.out _ b1).mono ?_;rintro _ w2 ⟨v2,rfl,t2,b2⟩;obtain⟨A2,c2,hv,-,-⟩:=t2.form;subst hv;have hk:=tL b1 b1.size b2;replace t1:=t1.G b2;obtain⟨_,_,e1,r1,-⟩:=t1.form;obtain⟨_,_,e2,r2,-⟩:=t2.form;injection e1 with e11 e12 e13;injection e2 with e21 e22 e23;subst e11 e13 e21 e23;have aeR:=Y (zY A1 A2 a' b' c1 c2 w2 r1 r2 (by have:=LA.out;omega) (by have:=LB.out;omega));clear b1 b2 L2 t1 t2 r1 r2 e12 e22;go_wp2_with fail;refine aeR.out.mono ?_;rintro _ w3 ⟨rfl,b3⟩;have HB3:=tL hk hk.size b3;clear b3;go_wp2_with fail;go_ret;exact uf.mk J HB3
structure Qy where
 sv:uV
 port:Int
 id:Int
 q:Qn
def xX(vn:Value)(y:Qy):List Value:=y.sv.cells++[.int .i64 y.port,.int .i64 y.id,vn,.int .i64 y.q.E,.int .i64 y.q.N]
structure Ib (w:World) (cs:List Value) (y:Qy) (A:Option Addr) (c:Nat):Prop where
 hcs:cs=xX (.slice A y.q.name.length c) y
 ip:y.sv.ip.length=16
 nm:xj w A c y.q.name
theorem Ib.G{y:Qy}{A:Option Addr}{c:Nat}(h:Ib w cs y A c)(F:al w w'):Ib w' cs y A c:=⟨h.hcs,h.ip,h.nm.G F⟩
section
variable {vn:Value} {y:Qy}
theorem xi(h:y.sv.ip.length=16):(xX vn y).length=23:=by simp[xX,y.sv.ur h]
theorem ZD(h:y.sv.ip.length=16):((xX vn y).drop 0).take 18=y.sv.cells:=by rw[List.drop_zero];unfold xX;exact List.take_left' (y.sv.ur h)
theorem zj(h:y.sv.ip.length=16)(k:Nat):(xX vn y)[18+k]?=[Value.int .i64 y.port,.int .i64 y.id,vn,.int .i64 y.q.E,.int .i64 y.q.N][k]?:=by
 unfold xX;rw[List.getElem?_append_right dH,y.sv.ur h,Nat.add_sub_cancel_left]
theorem Vw(h:y.sv.ip.length=16):((xX vn y).drop 20).take 3=qC vn y.q:=by
 have e:(xX vn y).drop 20=(([Value.int .i64 y.port,.int .i64 y.id,vn,.int .i64 y.q.E,.int .i64 y.q.N]:List Value)).drop 2:=by unfold xX;rw[show(20:Nat)=y.sv.cells.length+2 by rw[y.sv.ur h],List.drop_append];simp
 rw[e];rfl
theorem Vx(h:vn.oneCell'=true):∀v∈xX vn y,v.oneCell'=true:=by
 intro v hv;rcases List.mem_append.1 hv with hv|hv
 ·exact y.sv.xg v hv
 ·simp only[List.mem_cons,List.not_mem_nil,or_false]at hv;rcases hv with rfl|rfl|rfl|rfl|rfl<;>first|rfl|exact h
end
def WV(x y:Qn):Bool:=decide (x.E=y.E)&&(decide (x.N=y.N)&&decide (xL x.name=xL y.name))
def yV(y:Qy)(m:vo):Bool:=m.hd.qr&&(decide (m.hd.op=0)&&(decide (m.hd.id=y.id)&&match m.qs with
 |[x]=>WV x y.q
 |_=>false))
theorem Ue{y:Qy}{m:vo}{x:Qn}(h:m.qs=[x]):yV y m=(m.hd.qr&&(decide (m.hd.op=0)&&(decide (m.hd.id=y.id)&&WV x y.q))):=by unfold yV;rw[h]
theorem WX{y:Qy}{m:vo}(h:m.qs.length≠1):yV y m=false:=by
 unfold yV;cases hq:m.qs with
 |nil=>simp
 |cons x l=>
  cases l with
  |nil=>rw[hq]at h;simp at h
  |cons acZ l=>simp
theorem WY(cs ds:List Value)(y:Qy)(m:vo)(A:Option Addr)(c:Nat)(Aq Aa Au Ae:Option Addr)(cq ca cu ce:Nat)(w:World)(U:Ib w cs y A c)(X:yZ w ds m Aq Aa Au Ae cq ca cu ce):
  Calls prog 180 #[.agg cs.toArray,.agg ds.toArray] w (uf (.bool (yV y m)) w):=by
 obtain⟨t1,ht1⟩:∃t1:TypeId,t1=37:=gp;have ty:=U.ip;have L19:cs[19]?=some (.int .i64 y.id):=mZ;have L20:cs[20]?=some (.slice A y.q.name.length c):=mY;have L21:cs[21]?=some (.int .i64 y.q.E):=mX;have L22:cs[22]?=some (.int .i64 y.q.N):=mW;have M0:ds[0]?=some (.int .i64 m.hd.id):=iM;have M1:ds[1]?=some (.bool m.hd.qr):=iM;have M2:ds[2]?=some (.int .i64 m.hd.op):=iM;have M10:ds[10]?=some (.slice Aq m.qs.length cq):=iM;have hq:=X.hq;have B2:=Z.vP (w.alloc (.cells cs.toArray t1)) 50 ds (w.heap.size+1) ap;have B1:=(Z.new w t1 cs).alloc (.cells ds.toArray 50);have HB:Below w.heap.size w ((w.alloc (.cells cs.toArray t1)).alloc (.cells ds.toArray 50)):=gA;have a19:=B1.K 19 L19;have a20:=B1.K 20 L20;have a21:=B1.K 21 L21;have a22:=B1.K 22 L22;have d0:=B2.K 0 M0;have d1:=B2.K 1 M1;have d2:=B2.K 2 M2;have d10:=B2.K 10 M10;subst ht1;obtain⟨aek,hO⟩:=ao (yV y m);rw[hO.out];have hN:=Y U.nm;have HQ:=Y hq;clear U X ty L19 L20 L21 L22 M0 M1 M2 M10 hq;cases hqr:m.hd.qr with
 |false=>obtain rfl:aek=false:=lj;rw[hqr]at d1;clear hqr hO;go_enter func180,ntmps180;exact oH
 |true=>
 rw[hqr]at d1;by_cases hop:m.hd.op=0
 case neg=>
  obtain rfl:aek=false:=jW;have awI:(m.hd.op !=0)=true:=by simpa using hop
  clear hqr hO hop;go_enter func180,ntmps180;exact oH
 rw[hop]at d2;by_cases hid:m.hd.id=y.id
 case neg=>
  obtain rfl:aek=false:=jX;have aw1:(m.hd.id !=y.id)=true:=by simpa using hid
  clear hqr hO hop hid;go_enter func180,ntmps180;exact oH
 by_cases hll:m.qs.length=1
 case neg=>obtain rfl:aek=false:=me;have aoB:((m.qs.length:Int) !=1)=true:=az;rw[hid]at d0;clear hqr hO hop hid hll;go_enter func180,ntmps180;exact oH
 obtain⟨x,hx⟩:=List.length_eq_one_iff.1 hll;have HQ':QsR w Aq [x]:=hx▸HQ.out;obtain⟨ba,oa,eA,hba,hel⟩:=HQ' ap;subst eA;obtain⟨An,cn,hr,hNx⟩:=hel 0 ap;have hrg:=tX hr HB hba;have hOf:WV x y.q=aek:=jo;have HOF:=Y hOf;rw[hid]at d0;rw[hll]at d10;replace hrg:((w.alloc (.cells cs.toArray 37)).alloc (.cells ds.toArray 50)).rangeAt ba oa [.slice An x.name.length cn,.int .i64 x.E,.int .i64 x.N]:=hrg;have SM:=Y (fun w' (b:al w w')=>Ob An A x.name y.q.name cn c w' (hNx.G b) (hN.out.G b));have e20:∀o:Obj,(((w.alloc (.cells cs.toArray 37)).alloc (.cells ds.toArray 50)).alloc o).cell? ⟨w.heap.size,20,none⟩=some (.slice A y.q.name.length c):=fun o=>((B1.alloc o).cell 20).trans ((B1.cell 20).symm.trans a20)
 have e21:∀o:Obj,(((w.alloc (.cells cs.toArray 37)).alloc (.cells ds.toArray 50)).alloc o).cell? ⟨w.heap.size,21,none⟩=some (.int .i64 y.q.E):=fun o=>((B1.alloc o).cell 21).trans ((B1.cell 21).symm.trans a21)
 have e22:∀o:Obj,(((w.alloc (.cells cs.toArray 37)).alloc (.cells ds.toArray 50)).alloc o).cell? ⟨w.heap.size,22,none⟩=some (.int .i64 y.q.N):=fun o=>((B1.alloc o).cell 22).trans ((B1.cell 22).symm.trans a22)
 have HB3:∀o:Obj,Below w.heap.size w (((w.alloc (.cells cs.toArray 37)).alloc (.cells ds.toArray 50)).alloc o):=fun o=>HB.alloc az _
 have am2:=Y HB3;clear hqr hO hop hid hll hx HQ' hel hr HQ hN hNx hOf HB3 a20 a21 a22 B1 B2 hba HB;unfold WV at HOF;generalize y.q.E=E,y.q.N=N at*;generalize x.E=xt,x.N=xl at*;by_cases hty:xt=E
 case neg=>obtain rfl:aek=false:=ji;have ajX:(xt==E)=false:=iX;clear hty HOF SM;exact qo
 by_cases hcl:xl=N
 case neg=>obtain rfl:aek=false:=jd;have ajX:(xt==E)=true:=iX;have ala:(xl==N)=false:=jp;clear hty hcl HOF SM;exact qo
 have ajX:(xt==E)=true:=iX;have ala:(xl==N)=true:=jp;obtain⟨s,hs⟩:=ao (decide (xL x.name=xL y.q.name));rw[hs.out]at SM;have hOs:=HOF.out;rw[hs.out,decide_eq_true hty,decide_eq_true hcl]at hOs;obtain rfl:s=aek:=hOs;clear hty hcl HOF hs;go_enter func180,ntmps180;go_wp2_with(refine tO (.load 28 (.tmp 32)) J ?_;go_must(refine wpList_load_mid J 28 (.tmp 32) J ba oa J _ _ hrg underlying28 J xh ?_));refine(SM.out _ (am2.out _)).mono ?_;rintro _ w5 ⟨rfl,b5⟩;have HB5:=tL (am2.out _) (am2.out _).size b5;clear b5 SM;go_wp2_with fail;go_ret;exact uf.mk J HB5
theorem uA.uG{m:vo}(h:uA w cs m)(hg:w.grownBy w' (some g))(F:Z w g 50 L):uA w' cs m:=by
 obtain⟨vq,va,vu,ve,U,X,h3,h4,h5,l⟩:=h;exact⟨vq,va,vu,ve,U,X.uG hg F ax ax,h3.uG hg F ax ax,h4.uG hg F ax ax,h5.uG hg F ax ax,l⟩
def wH(y:Qy)(o:Except Int vo):vo×Bool:=match o with
 | .ok m=>if yV y m then(m,true)else(vo.zero,false)
 | .error _=>(vo.zero,false)
def Rw(p:vo×Bool)(w:World)(e:Ending)(w':World):Prop:=∃ds,e= .returned (.tuple #[.agg ds.toArray,.bool p.2])/\uA w' ds p.1/\al w w'
theorem GH:(prog.info? 37).map (·.size)=some 23:=by kernel_rfl
theorem DW{n:Nat}{h2:List Value}(h:Z w g 50 (L++h2.drop n))(hM:h2.length<=n):Z w g 50 L:=by
 exact rn
theorem Od(cs:List Value)(y:Qy)(A:Option Addr)(c:Nat)(s:List UInt8)(w:World)(h:Ib w cs y A c)(hs:s.length<=maxLen):
  Calls prog 119 #[.agg cs.toArray,.string (bs s)] w (Rw (wH y (xo s)) w):=by
 have hcl:cs.length=23:=ja;have D:=Y (fun w=>Ro s w hs);have hQ:=Y (fun w' (b:al w w')=>h.G b);have C1:Z ((w.alloc (.cells cs.toArray 37)).alloc (.cells uw.toArray 50)) w.heap.size 37 cs:=(Z.new w 37 cs).alloc _;have C4:Z ((w.alloc (.cells cs.toArray 37)).alloc (.cells uw.toArray 50)) (w.heap.size+1) 50 uw:=kK;have CB:Below w.heap.size w ((w.alloc (.cells cs.toArray 37)).alloc (.cells uw.toArray 50)):=gA;obtain⟨aek,hO⟩:=ao (xo s);rw[hO.out]at D⊢;clear h hO hs;go_enter func119,ntmps119;go_wp2_with fail;refine(D.out _).mono ?_;rintro _ w3 ⟨ds,m,x,rfl,hM3,b3,hx⟩;have B1:=C1.G b3 C1.lt;have B4:=C4.G b3 C4.lt;have HB3:=tL CB CB.size b3;have hdl:=hM3.len;have hd1:=Y hM3.one;clear b3 C1 C4 CB D;go_wp2_with(refine tO (.store 50 (.tmp 6) (.tmp 11)) J (ab J w3.heap.size 0 ds (Z.vP _ _ uw _ J) dI dJ hd1.out ?_));intro w4 B7 g4 _;replace B7:=DW B7 dK;have k4:al w3 w4:=jK;have HB4:=tL HB3 HB3.size k4;replace B1:=B1.G k4 B1.lt;replace B4:=B4.G k4 B4.lt;have hM4:=hM3.G k4;have hgr:w.heap.size<=w.heap.size+1:=I;have hrl:=zP;clear g4 k4 hM3 HB3;generalize w3.heap.size=gd at*;generalize w.heap.size+1=gr at*;rcases hx with⟨rfl,hO⟩|⟨hx,hO,rfl⟩
 case inr=>have hx':(x !=0)=true:=iJ;have HF:Hid (wH y aek=(vo.zero,false)):=Y (by rw[hO];rfl);clear hx hO hM4 B1 B7 hQ;exact oL
 have RC:Hid (Calls prog 180 #[.agg cs.toArray,.agg ds.toArray] w4 (uf (.bool (yV y m)) w4)):=Y (by
  obtain⟨_,_,_,_,_,_,_,_,U⟩:=hM4.is;exact WY cs ds y m A c _ _ _ _ _ _ _ _ w4 (hQ.out _ HB4) U)
 go_wp2_with(first
  |(refine tO (.load 37 (.tmp 2)) rfl ?_;go_must(refine uX 37 (.tmp 2) rfl bm w.heap.size 0 rfl B1 23 I _ underlying37 rfl GH cs (wg I) ?_))
  |(refine tO (.load 50 (.tmp 6)) rfl ?_;go_must(refine uX 50 (.tmp 6) rfl bm gd 0 rfl B7 14 I _ underlying50 rfl ux ds (wg I) ?_)))
 refine RC.out.mono ?_;rintro _ w5 ⟨rfl,b5⟩;have HB5:=tL HB4 HB4.size b5;have B75:=B7.G b5 B7.lt;have B45:=B4.G b5 B4.lt;have hM5:=hM4.G b5;clear b5 RC B1 HB4 B7 B4 hM4 hQ;cases hr:yV y m with
 |false=>have HF:Hid (wH y aek=(vo.zero,false)):=Y dL;have HB4:=HB5;have B4:=B45;clear hr hO HB5 B45 B75 hM5;exact oL
 |true=>
  have HF:Hid (wH y aek=(m,true)):=Y dL;clear hr hO;go_wp2_with(first
   |(refine tO (.load 50 (.tmp 6)) rfl ?_;go_must(refine tP rfl _ _ rfl gd 0 rfl B75 14 I _ underlying50 rfl ux ds (wg I) ?_))
   |(refine tO (.store 50 (.tmp 4) (.tmp 22)) rfl (ab rfl gr 0 ds B45 I dJ hd1.out ?_)))
  exact pS
structure Ev where
 kind:Int
 fr:uV
 fp:Int
 port:Int
 data:List UInt8
def xA(e:Ev):List Value:=.int .i64 e.kind::(e.fr.cells++[.int .i64 e.fp,.int .i64 e.port,.string (bs e.data)])
theorem Cv{e:Ev}(h:e.fr.ip.length=16):(xA e).length=22:=by simp[xA,e.fr.ur h]
theorem ZE{e:Ev}(h:e.fr.ip.length=16):((xA e).drop 1).take 18=e.fr.cells:=by
 show(e.fr.cells++_).take 18=_;exact List.take_left' (e.fr.ur h)
theorem z7{e:Ev}(h:e.fr.ip.length=16)(k:Nat):(xA e)[19+k]?=[Value.int .i64 e.fp,.int .i64 e.port,.string (bs e.data)][k]?:=by
 unfold xA;rw[show 19+k=(18+k)+1 by omega,List.getElem?_cons_succ,List.getElem?_append_right (by rw[e.fr.ur h];omega),e.fr.ur h,Nat.add_sub_cancel_left]
theorem abv{e:Ev}:∀v∈xA e,v.oneCell'=true:=by
 intro v hv;rcases List.mem_cons.1 hv with rfl|hv
 ·rfl
 rcases List.mem_append.1 hv with hv|hv
 ·exact e.fr.xg v hv
 ·simp only[List.mem_cons,List.not_mem_nil,or_false]at hv;rcases hv with rfl|rfl|rfl<;>rfl
theorem xJ:(prog.info? 24).map (·.size)=some 18:=by kernel_rfl
def A8(y:Qy)(e:Ev):vo×Bool:=if e.kind=2/\e.fr=y.sv/\e.fp=53/\e.port=y.port then wH y (xo e.data)else(vo.zero,false)
theorem Uf(cs:List Value)(y:Qy)(A:Option Addr)(c:Nat)(e:Ev)(w:World)(h:Ib w cs y A c)(ty:e.fr.ip.length=16)(hs:e.data.length<=maxLen):
  Calls prog 228 #[.agg cs.toArray,.agg (xA e).toArray] w (Rw (A8 y e) w):=by
 have hcl:cs.length=23:=ja;have hel:=Cv ty;have E0:(xA e)[0]?=some (.int .i64 e.kind):=rfl;have E19:(xA e)[19]?=some (.int .i64 e.fp):=z7 ty 0;have E20:(xA e)[20]?=some (.int .i64 e.port):=z7 ty 1;have E21:(xA e)[21]?=some (.string (bs e.data)):=z7 ty 2;have Q18:cs[18]?=some (.int .i64 y.port):=m5;have SE:=Y (ZE ty);have SQ:Hid ((cs.drop 0).take 18=y.sv.cells):=Y dM;have EA:=Hf e.fr y.sv ty h.ip;have FC:=Y (fun w' (b:al w w')=>Od cs y A c e.data w' (h.G b) hs);have B2:Z (((w.alloc (.cells cs.toArray 37)).alloc (.cells (xA e).toArray 42)).alloc (.cells uw.toArray 50)) w.heap.size 37 cs:=((Z.new w 37 cs).alloc _).alloc _;have B3:Z (((w.alloc (.cells cs.toArray 37)).alloc (.cells (xA e).toArray 42)).alloc (.cells uw.toArray 50)) (w.heap.size+1) 42 (xA e):=n6;have B4:Z (((w.alloc (.cells cs.toArray 37)).alloc (.cells (xA e).toArray 42)).alloc (.cells uw.toArray 50)) (w.heap.size+1+1) 50 uw:=kK;have HB:Below w.heap.size w (((w.alloc (.cells cs.toArray 37)).alloc (.cells (xA e).toArray 42)).alloc (.cells uw.toArray 50)):=iN;obtain⟨aeR,hX⟩:=ao (((w.alloc (.cells cs.toArray 37)).alloc (.cells (xA e).toArray 42)).alloc (.cells uw.toArray 50));have c0:=xp E0;have c19:=xp E19;have c20:=xp E20;have c21:=xp E21;have d18:=xp Q18;obtain⟨P,hP⟩:=ao (A8 y e);rw[hP.out];have PP:Hid (P=if e.kind=2/\e.fr=y.sv/\e.fp=53/\e.port=y.port then wH y (xo e.data)else(vo.zero,false)):=Y dN;clear h ty hs E0 E19 E20 E21 Q18 hP hX;generalize wH y (xo e.data)=afW at*;generalize e.data=dt at*;by_cases O:e.kind=2
 case neg=>have hk':(e.kind !=2)=true:=bf;have HF:Hid (P=(vo.zero,false)):=Y dO;clear O PP FC EA;generalize e.kind=kd at*;generalize xA e=es at*;go_enter func228,ntmps228;go_wp2_with(refine tO (.store 50 (.tmp 4) (.tmp 28)) J (ab J (w.heap.size+1+1) 0 uw B4 dK ux wT ?_));exact oC
 rw[O]at c0;generalize xA e=es at*;by_cases hf:e.fr=y.sv
 case neg=>
  have HF:Hid (P=(vo.zero,false)):=Y dP;rw[decide_eq_false hf]at EA;clear O hf PP FC;generalize e.fr.cells=fc,y.sv.cells=sc at*;go_enter func228,ntmps228;go_wp2_with(first
   |(refine tO (.load 24 (.tmp 10)) rfl ?_;go_must(refine uX 24 (.tmp 10) rfl bm (w.heap.size+1) 1 rfl B3 18 I _ underlying24 rfl xJ _ SE.out ?_))
   |(refine tO (.load 24 (.tmp 12)) rfl ?_;go_must(refine uX 24 (.tmp 12) rfl bm w.heap.size 0 rfl B2 18 I _ underlying24 rfl xJ _ SQ.out ?_))
   |(refine tO (.store 50 (.tmp 4) (.tmp 28)) rfl (ab rfl (w.heap.size+1+1) 0 uw B4 dK ux wT ?_)))
  exact oC
 rw[decide_eq_true hf]at EA;by_cases hp:e.fp=53
 case neg=>
  have hp':(e.fp !=53)=true:=by simpa using hp
  have HF:Hid (P=(vo.zero,false)):=Y dQ;clear O hf hp PP FC;generalize e.fp=fp,e.fr.cells=fc,y.sv.cells=sc at*;go_enter func228,ntmps228;go_wp2_with(first
   |(refine tO (.load 24 (.tmp 10)) rfl ?_;go_must(refine uX 24 (.tmp 10) rfl bm (w.heap.size+1) 1 rfl B3 18 I _ underlying24 rfl xJ _ SE.out ?_))
   |(refine tO (.load 24 (.tmp 12)) rfl ?_;go_must(refine uX 24 (.tmp 12) rfl bm w.heap.size 0 rfl B2 18 I _ underlying24 rfl xJ _ SQ.out ?_))
   |(refine tO (.store 50 (.tmp 4) (.tmp 28)) rfl (ab rfl (w.heap.size+1+1) 0 uw B4 dK ux wT ?_)))
  exact oC
 rw[hp]at c19;by_cases ho:e.port=y.port
 case neg=>
  have ho':(e.port !=y.port)=true:=by simpa using ho
  have HF:Hid (P=(vo.zero,false)):=Y dR;clear O hf hp ho PP FC;generalize e.port=ep,y.port=yp at*;generalize e.fr.cells=fc,y.sv.cells=sc at*;go_enter func228,ntmps228;go_wp2_with(first
   |(refine tO (.load 24 (.tmp 10)) rfl ?_;go_must(refine uX 24 (.tmp 10) rfl bm (w.heap.size+1) 1 rfl B3 18 I _ underlying24 rfl xJ _ SE.out ?_))
   |(refine tO (.load 24 (.tmp 12)) rfl ?_;go_must(refine uX 24 (.tmp 12) rfl bm w.heap.size 0 rfl B2 18 I _ underlying24 rfl xJ _ SQ.out ?_))
   |(refine tO (.store 50 (.tmp 4) (.tmp 28)) rfl (ab rfl (w.heap.size+1+1) 0 uw B4 dK ux wT ?_)))
  exact oC
 rw[ho]at c20;have HF:Hid (P=afW):=Y dS;clear O hf hp ho PP;generalize y.port=yp,e.fr.cells=fc,y.sv.cells=sc at*;go_enter func228,ntmps228;go_wp2_with(first
  |(refine tO (.load 24 (.tmp 10)) rfl ?_;go_must(refine uX 24 (.tmp 10) rfl bm (w.heap.size+1) 1 rfl B3 18 I _ underlying24 rfl xJ _ SE.out ?_))
  |(refine tO (.load 24 (.tmp 12)) rfl ?_;go_must(refine uX 24 (.tmp 12) rfl bm w.heap.size 0 rfl B2 18 I _ underlying24 rfl xJ _ SQ.out ?_))
  |(refine tO (.load 37 (.tmp 2)) rfl ?_;go_must(refine tP rfl _ _ rfl w.heap.size 0 rfl B2 23 I _ underlying37 rfl GH cs (wg I) ?_)))
 refine(FC.out _ HB).mono ?_;rintro _ w5 ⟨ds,rfl,hM5,b5⟩;have HB5:=tL HB HB.size b5;have B45:=B4.G b5 B4.lt;have hdl:=hM5.len;have hd1:=Y hM5.one;clear b5 FC HB B2 B3 B4 c0 c19 c20 c21 d18 EA SE SQ;go_wp2_with(refine tO (.store 50 (.tmp 4) (.tmp 33)) J (ab J (w.heap.size+1+1) 0 ds B45 dK dJ hd1.out ?_));exact pP
def Qe:List Value:=[.int .i64 0,.int .u8 0,.int .u8 0,.int .u8 0,.int .u8 0,.int .u8 0,.int .u8 0,.int .u8 0,.int .u8 0,.int .u8 0,.int .u8 0,.int .u8 0,.int .u8 0,.int .u8 0,.int .u8 0,.int .u8 0,.int .u8 0,.int .i64 0,.int .i64 0,.int .i64 0,.slice none 0 0,.int .i64 0,.int .i64 0]
theorem Cw:Qe.length=23:=rfl
theorem WZ(fam cl port id:Int)(q:Qn)(b0 b1 b2 b3 b4 b5 b6 b7 b8 b9 b10 b11 b12 b13 b14 b15:UInt8)(A:Option Addr)(n c:Nat)(W:World):
  (Instr.build 37 #[(0,.agg (uV.cells ⟨fam,[b0,b1,b2,b3,b4,b5,b6,b7,b8,b9,b10,b11,b12,b13,b14,b15],cl⟩).toArray),(1,.int .i64 port),(2,.int .i64 id),(3,.agg #[.slice A n c,.int .i64 q.E,.int .i64 q.N])]).run prog W= .ok (.agg (xX (.slice A n c) ⟨⟨fam,[b0,b1,b2,b3,b4,b5,b6,b7,b8,b9,b10,b11,b12,b13,b14,b15],cl⟩,port,id,q⟩).toArray) W:=by
 kernel_rfl
theorem abw(y:Qy)(h:y.sv.ip.length=16)(A:Option Addr)(n c:Nat)(W:World):
  (Instr.build 37 #[(0,.agg y.sv.cells.toArray),(1,.int .i64 y.port),(2,.int .i64 y.id),(3,.agg #[.slice A n c,.int .i64 y.q.E,.int .i64 y.q.N])]).run prog W= .ok (.agg (xX (.slice A n c) y).toArray) W:=by
 obtain⟨⟨fam,ip,cl⟩,port,id,q⟩:=y;have h':ip.length=16:=h;clear h;match ip,h' with
 |[b0,b1,b2,b3,b4,b5,b6,b7,b8,b9,b10,b11,b12,b13,b14,b15],_=>exact WZ fam cl port id q b0 b1 b2 b3 b4 b5 b6 b7 b8 b9 b10 b11 b12 b13 b14 b15 A n c W
theorem DX:(prog.info? 30).map (·.size)=some 23:=by kernel_rfl
theorem Px(cs ds:List Value)(y:Qy)(m:vo)(A:Option Addr)(c:Nat)(Aq Aa Au Ae:Option Addr)(cq ca cu ce:Nat)(w:World)(U:Ib w cs y A c)(X:yZ w ds m Aq Aa Au Ae cq ca cu ce)(hsm:uQ y.q.name<=1000)(hsq:∀x∈m.qs,uQ x.name<=1000):
  Calls prog 79 #[.agg cs.toArray,.agg ds.toArray] w (uf (.bool (yV y m)) w):=by
 obtain⟨t1,ht1⟩:∃t1:TypeId,t1=30:=gp;have ty:=U.ip;have hl1:cs.length=23:=by rw[U.hcs];exact xi ty
 have L19:cs[19]?=some (.int .i64 y.id):=mZ;have L20:cs[20]?=some (.slice A y.q.name.length c):=mY;have L21:cs[21]?=some (.int .i64 y.q.E):=mX;have L22:cs[22]?=some (.int .i64 y.q.N):=mW;have M0:ds[0]?=some (.int .i64 m.hd.id):=iM;have M1:ds[1]?=some (.bool m.hd.qr):=iM;have M2:ds[2]?=some (.int .i64 m.hd.op):=iM;have M10:ds[10]?=some (.slice Aq m.qs.length cq):=iM;have hq:=X.hq;have B2:=Z.vP (w.alloc (.cells cs.toArray t1)) 50 ds (w.heap.size+1) ap;have B1:=(Z.new w t1 cs).alloc (.cells ds.toArray 50);have HB:Below w.heap.size w ((w.alloc (.cells cs.toArray t1)).alloc (.cells ds.toArray 50)):=gA;have a19:=B1.K 19 L19;have a20:=B1.K 20 L20;have a21:=B1.K 21 L21;have a22:=B1.K 22 L22;have d0:=B2.K 0 M0;have d1:=B2.K 1 M1;have d2:=B2.K 2 M2;have d10:=B2.K 10 M10;subst ht1;obtain⟨aek,hO⟩:=ao (yV y m);rw[hO.out];have hN:=Y U.nm;have HQ:=Y hq;have atg:=L20;have hq3:(cs.drop 20).take 3=[.slice A y.q.name.length c,.int .i64 y.q.E,.int .i64 y.q.N]:=by rw[U.hcs];exact Vw ty
 clear U X ty L19 L20 L21 L22 M0 M1 M2 M10 hq;cases hqr:m.hd.qr with
 |false=>obtain rfl:aek=false:=lj;rw[hqr]at d1;clear hqr hO;go_enter func79,ntmps79;exact oH
 |true=>
 rw[hqr]at d1;by_cases hop:m.hd.op=0
 case neg=>
  obtain rfl:aek=false:=jW;have awI:(m.hd.op !=0)=true:=by simpa using hop
  clear hqr hO hop;go_enter func79,ntmps79;exact oH
 rw[hop]at d2;by_cases hid:m.hd.id=y.id
 case neg=>
  obtain rfl:aek=false:=jX;have aw1:(m.hd.id !=y.id)=true:=by simpa using hid
  clear hqr hO hop hid;go_enter func79,ntmps79;exact oH
 by_cases hll:m.qs.length=1
 case neg=>obtain rfl:aek=false:=me;have aoB:((m.qs.length:Int) !=1)=true:=az;rw[hid]at d0;clear hqr hO hop hid hll;go_enter func79,ntmps79;exact oH
 obtain⟨x,hx⟩:=List.length_eq_one_iff.1 hll;have HQ':QsR w Aq [x]:=hx▸HQ.out;obtain⟨ba,oa,eA,hba,hel⟩:=HQ' ap;subst eA;obtain⟨An,cn,hr,hNx⟩:=hel 0 ap;have hbw:=hba;have hrg:=tX hr HB hba;have hOf:WV x y.q=aek:=jo;have HOF:=Y hOf;rw[hid]at d0;rw[hll]at d10;replace hrg:((w.alloc (.cells cs.toArray 30)).alloc (.cells ds.toArray 50)).rangeAt ba oa [.slice An x.name.length cn,.int .i64 x.E,.int .i64 x.N]:=hrg;have hsx:uQ x.name<=1000:=hsq x (by rw[hx];simp);have SM:=Y (fun w' (b:al w w')=>Jw An A x.name y.q.name cn c w' (hNx.G b) (hN.out.G b) (by have:=zE x.name;omega) (by have:=zE y.q.name;omega));have L20:=Y atg;have HC:=Y (show cs.length=23 from hl1);have afE:=Y (show(cs.drop 20).take 3=[.slice A y.q.name.length c,.int .i64 y.q.E,.int .i64 y.q.N]from hq3);clear hqr hO hop hid hll hx HQ' hel hr HQ hN hNx hOf a20 a21 a22 hba hl1 hsm hsq hsx hq3 atg;unfold WV at HOF;generalize y.q.E=E,y.q.N=N at*;generalize x.E=xt,x.N=xl at*;obtain⟨s,hs⟩:=ao (decide (xL x.name=xL y.q.name));rw[hs.out]at SM HOF;clear hs;generalize y.q.name.length=nl,x.name.length=xn at*;go_enter func79,ntmps79;go_wp2_with fail;obtain⟨W,hW⟩:∃W,W=(w.alloc (.cells cs.toArray 30)).alloc (.cells ds.toArray 50):=gp;rw[<-hW]at B1 B2 HB hrg d10⊢;clear hW d0 d1 d2 a19;refine wp_region_held_drew (S:=fun V=>al W V) (by kernel_rfl) (Below.refl _ _).drew (fun M=>?_)
 (refine ag 0 (some 31) J J (by kernel_rfl) (fun W hW=>rfl) M ?_;simp only[z])
 refine uZ 1 (some 32) 47 (.tmp 31) ⟨w.heap.size+1,10,none⟩ J J J J (by kernel_rfl) (by kernel_rfl) (by kernel_rfl) (fun _ _ _ h=>h) (by kernel_rfl) (fun V hV=>tV underlying47 J ((hV.cell (p:=⟨w.heap.size+1,10,none⟩) B2.lt).trans d10)) M ?_;simp only[z];refine ag 2 (some 33) (v:=.pointer (some ⟨ba,oa,none⟩)) J J (by kernel_rfl) (fun V hV=>by go_simp) M ?_;simp only[z];refine uZ 3 (some 34) 28 (.tmp 33) ⟨ba,oa,none⟩ J J J J (by kernel_rfl) (by kernel_rfl) (by kernel_rfl) (fun _ _ _ h=>h) (by kernel_rfl) (fun V hV=>run_loadAt_mid V ba oa 28 [.slice An xn cn,.int .i64 xt,.int .i64 xl] _ (tX hrg hV (Nat.lt_of_lt_of_le hbw HB.size)) underlying28 J xh) M ?_;simp only[z]
 (refine ag 4 (some 35) J J (by kernel_rfl) (fun W hW=>rfl) M ?_;simp only[z])
 refine uZ 5 (some 36) 28 (.tmp 35) ⟨w.heap.size,20,none⟩ J J J J (by kernel_rfl) (by kernel_rfl) (by kernel_rfl) (fun _ _ _ h=>h) (by kernel_rfl) (fun V hV=>(B1.G hV B1.lt).wk 28 20 3 (by rw[HC.out];omega) _ underlying28 J xh _ afE.out) M ?_;simp only[z];have HBw:=Y HB;refine xu 6 7 (by kernel_rfl) ?_ ?_
 ·
  refine uM 6 (some 5) (v:=.pointer (some ⟨W.heap.size,0,none⟩)) (w':=W.drew.alloc (.cells qZ.toArray 28)) J J (by kernel_rfl) (by kernel_rfl) ?_;have bb1:Below W.heap.size W (W.drew.alloc (.cells qZ.toArray 28)):=lx;refine⟨bb1,?_⟩;simp only[z];refine um 7 (by kernel_rfl) ?_;refine uM 7 (some 6) (v:=.pointer (some ⟨(W.drew.alloc (.cells qZ.toArray 28)).heap.size,0,none⟩)) (w':=(W.drew.alloc (.cells qZ.toArray 28)).alloc (.cells qZ.toArray 28)) J J (by kernel_rfl) (by kernel_rfl) ?_;have bb2:Below W.heap.size W ((W.drew.alloc (.cells qZ.toArray 28)).alloc (.cells qZ.toArray 28)):=bb1.alloc bb1.size _;refine⟨bb2,?_⟩;simp only[z];have E1:Z ((W.drew.alloc (.cells qZ.toArray 28)).alloc (.cells qZ.toArray 28)) W.heap.size 28 qZ:=(Z.new W.drew 28 qZ).alloc _;have E2:Z ((W.drew.alloc (.cells qZ.toArray 28)).alloc (.cells qZ.toArray 28)) (W.drew.alloc (.cells qZ.toArray 28)).heap.size 28 qZ:=Z.new _ 28 qZ;have hne:W.heap.size<(W.drew.alloc (.cells qZ.toArray 28)).heap.size:=by exact rL
  have C5:=E1;have C6:=E2;refine vz 8 none 28 (.tmp 5) (.tmp 34) (by kernel_rfl) J J J (by kernel_rfl) (W.heap.size) 0 J [.slice An xn cn,.int .i64 xt,.int .i64 xl] J C5 cH xh aO ?_;intro wx D5 g5 s5;replace D5:Z wx (W.heap.size) 28 [.slice An xn cn,.int .i64 xt,.int .i64 xl]:=by simpa[qZ]using D5
  have D6:=C6.grown g5 dT;have bx:al W wx:=tN bb2 g5 bb2.size I;refine⟨bx,?_⟩;simp only[z];refine vz 9 none 28 (.tmp 6) (.tmp 36) (by kernel_rfl) J J J (by kernel_rfl) ((W.drew.alloc (.cells qZ.toArray 28)).heap.size) 0 J [.slice A nl c,.int .i64 E,.int .i64 N] J D6 cH xh aO ?_;intro wz F6 g6 s6;replace F6:Z wz ((W.drew.alloc (.cells qZ.toArray 28)).heap.size) 28 [.slice A nl c,.int .i64 E,.int .i64 N]:=by simpa[qZ]using F6
  have F5:=D5.grown g6 dT;have bz:al W wz:=tN bx g6 bx.size I;have HBz:=tL HBw.out HBw.out.size bz;refine⟨bz,?_⟩;clear M C5 C6 D5 D6 E1 E2 g5 g6 bb1 bb2 bx s5 s6 B1 B2 hrg HB;have M:=bz;have C5:=F5;have C6:=F6;clear F5 F6;generalize(W.drew.alloc (.cells qZ.toArray 28)).heap.size=h6 at*;generalize W.heap.size=h5 at*;simp only[z];refine wpAnyH_done (by kernel_rfl) ?_ _;clear M;have p0:=C5.K 0 J;have p1:=C5.K 1 J;have p2:=C5.K 2 J;have r0:=C6.K 0 J;have r1:=C6.K 1 J;have r2:=C6.K 2 J;go_wp2_with fail;refine(SM.out _ HBz).mono ?_;rintro _ w9 ⟨rfl,b9⟩;have HB9:=tL HBz HBz.size b9;have D5:=C5.G b9 C5.lt;have D6:=C6.G b9 C6.lt;clear p0 p1 p2 r0 r1 r2 b9;have p1:=D5.K 1 J;have p2:=D5.K 2 J;have r1:=D6.K 1 J;have r2:=D6.K 2 J;cases s with
  |false=>obtain rfl:aek=false:=og;clear HOF SM C5 C6 D5 D6;exact oV
  |true=>
  by_cases hty:xt=E
  case neg=>obtain rfl:aek=false:=ji;have ajX:(xt==E)=false:=iX;clear HOF SM C5 C6 D5 D6 hty;exact oV
  have ajX:(xt==E)=true:=iX;by_cases hcl:xl=N
  case neg=>obtain rfl:aek=false:=jd;have ala:(xl==N)=false:=jp;clear HOF SM C5 C6 D5 D6 hty hcl;exact oV
  have ala:(xl==N)=true:=jp;obtain rfl:aek=true:=j8;clear HOF SM C5 C6 D5 D6 hty hcl;exact oV
 ·
  refine uM 7 (some 6) (v:=.pointer (some ⟨W.heap.size,0,none⟩)) (w':=W.drew.alloc (.cells qZ.toArray 28)) J J (by kernel_rfl) (by kernel_rfl) ?_;have bb1:Below W.heap.size W (W.drew.alloc (.cells qZ.toArray 28)):=lx;refine⟨bb1,?_⟩;simp only[z];refine um 6 (by kernel_rfl) ?_;refine uM 6 (some 5) (v:=.pointer (some ⟨(W.drew.alloc (.cells qZ.toArray 28)).heap.size,0,none⟩)) (w':=(W.drew.alloc (.cells qZ.toArray 28)).alloc (.cells qZ.toArray 28)) J J (by kernel_rfl) (by kernel_rfl) ?_;have bb2:Below W.heap.size W ((W.drew.alloc (.cells qZ.toArray 28)).alloc (.cells qZ.toArray 28)):=bb1.alloc bb1.size _;refine⟨bb2,?_⟩;simp only[z];have E1:Z ((W.drew.alloc (.cells qZ.toArray 28)).alloc (.cells qZ.toArray 28)) W.heap.size 28 qZ:=(Z.new W.drew 28 qZ).alloc _;have E2:Z ((W.drew.alloc (.cells qZ.toArray 28)).alloc (.cells qZ.toArray 28)) (W.drew.alloc (.cells qZ.toArray 28)).heap.size 28 qZ:=Z.new _ 28 qZ;have hne:W.heap.size<(W.drew.alloc (.cells qZ.toArray 28)).heap.size:=by exact rL
  have C5:=E2;have C6:=E1;refine vz 8 none 28 (.tmp 5) (.tmp 34) (by kernel_rfl) J J J (by kernel_rfl) ((W.drew.alloc (.cells qZ.toArray 28)).heap.size) 0 J [.slice An xn cn,.int .i64 xt,.int .i64 xl] J C5 cH xh aO ?_;intro wx D5 g5 s5;replace D5:Z wx ((W.drew.alloc (.cells qZ.toArray 28)).heap.size) 28 [.slice An xn cn,.int .i64 xt,.int .i64 xl]:=by simpa[qZ]using D5
  have D6:=C6.grown g5 dT;have bx:al W wx:=tN bb2 g5 bb2.size I;refine⟨bx,?_⟩;simp only[z];refine vz 9 none 28 (.tmp 6) (.tmp 36) (by kernel_rfl) J J J (by kernel_rfl) (W.heap.size) 0 J [.slice A nl c,.int .i64 E,.int .i64 N] J D6 cH xh aO ?_;intro wz F6 g6 s6;replace F6:Z wz (W.heap.size) 28 [.slice A nl c,.int .i64 E,.int .i64 N]:=by simpa[qZ]using F6
  have F5:=D5.grown g6 dT;have bz:al W wz:=tN bx g6 bx.size I;have HBz:=tL HBw.out HBw.out.size bz;refine⟨bz,?_⟩;clear M C5 C6 D5 D6 E1 E2 g5 g6 bb1 bb2 bx s5 s6 B1 B2 hrg HB;have M:=bz;have C5:=F5;have C6:=F6;clear F5 F6;generalize(W.drew.alloc (.cells qZ.toArray 28)).heap.size=h6 at*;generalize W.heap.size=h5 at*;simp only[z];refine wpAnyH_done (by kernel_rfl) ?_ _;clear M;have p0:=C5.K 0 J;have p1:=C5.K 1 J;have p2:=C5.K 2 J;have r0:=C6.K 0 J;have r1:=C6.K 1 J;have r2:=C6.K 2 J;go_wp2_with fail;refine(SM.out _ HBz).mono ?_;rintro _ w9 ⟨rfl,b9⟩;have HB9:=tL HBz HBz.size b9;have D5:=C5.G b9 C5.lt;have D6:=C6.G b9 C6.lt;clear p0 p1 p2 r0 r1 r2 b9;have p1:=D5.K 1 J;have p2:=D5.K 2 J;have r1:=D6.K 1 J;have r2:=D6.K 2 J;cases s with
  |false=>obtain rfl:aek=false:=og;clear HOF SM C5 C6 D5 D6;exact oV
  |true=>
  by_cases hty:xt=E
  case neg=>obtain rfl:aek=false:=ji;have ajX:(xt==E)=false:=iX;clear HOF SM C5 C6 D5 D6 hty;exact oV
  have ajX:(xt==E)=true:=iX;by_cases hcl:xl=N
  case neg=>obtain rfl:aek=false:=jd;have ala:(xl==N)=false:=jp;clear HOF SM C5 C6 D5 D6 hty hcl;exact oV
  have ala:(xl==N)=true:=jp;obtain rfl:aek=true:=j8;clear HOF SM C5 C6 D5 D6 hty hcl;exact oV
def aeT:uV:=⟨4,[1,2,3,4,0,0,0,0,0,0,0,0,0,0,0,0],0⟩
def b25:List UInt8:=[0,7,128,0,0,1,0,0,0,0,0,0,1,97,0,0,1,0,1]
def f25:Ev:=⟨2,aeT,54,5000,b25⟩
open Go.ChangeShapes Go.WideShapes Go.ChangeAt Go.RowKit
section
variable {H:Type} {enc:TypeId×Value->H} {w:World} {cs:List Value}
end
end Go.Proofs.YthnbcmlnpdabhaaGreat
