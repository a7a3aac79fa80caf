/-
  Layer 14 (message):the reader:take,num,check,name.
-/
import Derived.Test.YthnbcmlnpdabhaaGreatHCq
import Derived.Great.BuildSlice
namespace Go.Proofs.YthnbcmlnpdabhaaGreat
open _root_.Go.Proofs.Tryz
set_option maxHeartbeats 8000000
open Go.RowKit
set_option maxRecDepth 100000
set_option linter.unusedVariables false
set_option linter.unusedSimpArgs false
variable {m:List UInt8} {w w' w1 w2:World} {e:Ending} {a:Act} {ops:Array Oper} {o:Oper} {B:Nat} {v v':Value} {cs:List Value}
def EZ(w:World)(g:Nat)(m:List UInt8)(a:Nat):Prop:=F w g 327 [.string (bs m),.int .i64 (a:Int)]
def Mh(e:Int):List PanicEntry:=[{v:=.iface 324 (.agg #[.int .i64 e]),recovered:=false}]
def JX{α:Type}(V:World->Value->α->Prop)(g:Nat)(m:List UInt8)(w:World)(o:Except Int (α×Nat))(e:Ending)(w':World):Prop:=
 match o with
 | .error x=>e= .panicked (Mh x)/\w.grownBy w' (some g)
 | .ok (x,p)=>∃v,e= .returned v/\V w' v x/\EZ w' g m p/\w.grownBy w' (some g)/\p<=m.length
theorem Om(g:Nat)(m:List UInt8)(a n:Nat)(w:World)(h:EZ w g m a)(hl:m.length<=65535)(hn:a+n<=m.length):
  Calls prog 250 #[.pointer (some ⟨g,0,none⟩),.int .i64 n] w (fun e w'=>e= .returned (.string (bs ((m.take (a+n)).drop a)))/\EZ w' g m (a+n)/\w.grownBy w' (some g)):=by
 have c0:=h.M 0 J;have c1:=h.M 1 J;have f1:=h.frozen 1;have hn':(a:Int)+n<=m.length:=I;have e1:((a:Int)+n).toNat=a+n:=I;have e2:((a:Int)+n-n).toNat=a:=I;go_enter func250,ntmps250;go_wp2_with fail;go_quiet(fail);go_wp2_with fail;go_quiet(fail);go_wp2_with fail;go_ret;refine⟨?_,?_,yt (uS (yt (World.grownBy.refl _ _) _) _ _) _⟩
 ·simp
 ·
  have:=fun i j=>((h.drewN i).set 1 (.int .i64 ((a+n:Nat):Int))).drewN j
  simpa[EZ]using this _ _
theorem Sv(g:Nat)(m:List UInt8)(a n:Nat)(w:World)(h:EZ w g m a)(hl:m.length<=65535)(ha:a<=m.length)(hn:m.length<a+n)(hn2:n<=100000):
  Calls prog 250 #[.pointer (some ⟨g,0,none⟩),.int .i64 n] w (fun e w'=>e= .panicked (Mh 1)/\w.grownBy w' (some g)):=by
 have c0:=h.M 0 J;have c1:=h.M 1 J;have hn':(m.length:Int)-a<n:=I;go_enter func250,ntmps250;exact qT
theorem Wj(w:World):Calls prog 217 #[.int .i64 0] w (fun e w'=>e= .returned (.tuple #[])/\w=w'):=by
 go_enter func217,ntmps217;go_wp2_with fail;go_end0;exact⟨J,J⟩
theorem Mi(x:Int)(hx:x≠0)(w:World):Calls prog 217 #[.int .i64 x] w (fun e w'=>e= .panicked (Mh x)/\w=w'):=by
 have hx':(x !=0)=true:=iR;clear hx;go_enter func217,ntmps217;go_wp2_with fail;exact⟨J,J,J⟩
theorem Wk(m:List UInt8)(k p:Nat)(h:p+k<=m.length):((m.take (p+k)).drop p).length=k:=by simp;omega
theorem AE(g:Nat)(m:List UInt8)(a k:Nat)(w:World)(h:EZ w g m a)(hl:m.length<=65535)(ha:a<=m.length)(z:k=2\/k=4):
  Calls prog 240 #[.pointer (some ⟨g,0,none⟩),.int .i64 k] w (JX (fun _ v n=>v= .int .i64 ((n:Nat):Int)) g m w (wv m k a)):=by
 unfold wv;by_cases hs:m.length<a+k
 ·rw[if_pos hs];have T:=Y (Sv g m a k w h hl ha hs I);go_enter func240,ntmps240;go_wp2_with fail;refine T.out.mono ?_;rintro _ w1 ⟨rfl,g1⟩;go_wp2_with fail;exact⟨J,J,g1⟩
 ·
  rw[if_neg hs];have T:=Y (Om g m a k w h hl I);have hd:=Wk m k a I;have hhw:(hw (k:Int):Int)=k:=by rcases z with rfl|rfl<;>rfl
  have hTV:zP ((m.take (a+k)).drop a) false ((hw (k:Int):Nat):Int)=(m.take (a+k)).drop a:=by rw[hhw];unfold zP;rw[Int.toNat_natCast,if_neg (by rw[hd];simp),List.take_of_length_le I]
  generalize(m.take (a+k)).drop a=d at*;go_enter func240,ntmps240;go_wp2_with fail;refine T.out.mono ?_;rintro _ w1 ⟨rfl,U,g1⟩;go_wp2_with fail;refine(Eg d w1).mono ?_;rintro _ w2 ⟨rfl,e2,b2⟩;have ae:=Y (Ky w1.heap.size d false (k:Int) w2 e2 aK);rw[hTV]at ae;have R2:=U.G b2 U.lt;have hgn:g<w1.heap.size:=U.lt;have g2:=uC g1 (uM b2 none) (.inr (fun k z=>by cases z));have hsz:=g1.size;clear hTV e2 b2 T;generalize w1.heap.size=gy at*;go_wp2_with fail;refine ae.out.mono ?_;rintro _ w3 ⟨rfl,e3,g3⟩;have R3:=R2.grown g3 aA;have g3':=uC g2 g3 (.inr (fun k z=>by injection z with z;omega));go_wp2_with fail;go_ret;exact⟨_,J,J,R3,g3',I⟩
theorem On(g:Nat)(m:List UInt8)(a:Nat)(w:World)(h:EZ w g m a)(hl:m.length<=65535)(ha:a<=m.length):
  Calls prog 239 #[.pointer (some ⟨g,0,none⟩)] w (JX AB g m w (yd m a)):=by
 have agc:=Y (fun w=>VX m a w I);have hgl:=h.lt;unfold Dw at agc;rcases Ap m a with⟨l,n,U,X,h3,h4,h5⟩|⟨x,U,X,h3⟩;all_goals
  rw[U]at agc;rw[X];go_enter func239,ntmps239;go_wp2_with fail;refine wp_region_held_drew (S:=fun W=>EZ W g m a) (by kernel_rfl) h.drew (fun K=>?_)
  (refine ag 0 (some 7) J J (by kernel_rfl) (fun W hW=>rfl) K ?_;simp only[E])
  (refine ag 1 (some 8) J J (by kernel_rfl) (fun W hW=>rfl) K ?_;simp only[E])
  (refine ag 2 (some 9) J J (by kernel_rfl) (fun W hW=>rfl) K ?_;simp only[E])
  refine vK 3 (some 10) 9 (.tmp 9) ⟨g,0,none⟩ J J J J (by kernel_rfl) (by kernel_rfl) (by kernel_rfl) (fun _ _ _ h=>h) (by kernel_rfl) (fun W hW=>uB underlying9 J (F.M hW 0 J)) K ?_;simp only[E]
  (refine ag 4 (some 11) J J (by kernel_rfl) (fun W hW=>rfl) K ?_;simp only[E])
  (refine ag 5 (some 12) J J (by kernel_rfl) (fun W hW=>rfl) K ?_;simp only[E])
  (refine ag 6 (some 13) J J (by kernel_rfl) (fun W hW=>rfl) K ?_;simp only[E])
  refine vK 7 (some 14) 3 (.tmp 13) ⟨g,1,none⟩ J J J J (by kernel_rfl) (by kernel_rfl) (by kernel_rfl) (fun _ _ _ h=>h) (by kernel_rfl) (fun W hW=>uB underlying3 J (F.M hW 1 J)) K ?_;simp only[E];refine vx 8 (some 15) 249 #[.string (bs m),.int .i64 (a:Int)] (by kernel_rfl) J J (by kernel_rfl) bp (agc.out _) ?_;rintro _ w1 ⟨v,rfl,hT,k1',_⟩;have k1:al w w1:=kX;have R1:EZ w1 g m a:=F.G h k1 hgl;refine⟨_,J,R1,?_⟩;clear K;have K:=R1;simp only[E]
  (refine ag 9 (some 6) J J (by kernel_rfl) (fun W hW=>rfl) K ?_;simp only[E])
  (refine ag 10 (some 16) J J (by kernel_rfl) (fun W hW=>rfl) K ?_;simp only[E])
  (refine ag 11 (some 17) J J (by kernel_rfl) (fun W hW=>rfl) K ?_;simp only[E])
  (refine ag 12 (some 18) J J (by kernel_rfl) (fun W hW=>rfl) K ?_;simp only[E])
  (refine ag 13 (some 3) J J (by kernel_rfl) (fun W hW=>rfl) K ?_;simp only[E])
  (refine ag 14 (some 4) J J (by kernel_rfl) (fun W hW=>rfl) K ?_;simp only[E])
  (refine ag 15 (some 5) J J (by kernel_rfl) (fun W hW=>rfl) K ?_;simp only[E])
  refine wpAnyH_done (by kernel_rfl) ?_ _;clear K agc k1'
 ·have N1:=AB.mk' hT h4 h5;simp only[goB,Xe,goN]at*;go_wp2_with fail;refine(Wj _).mono ?_;rintro _ w2 ⟨rfl,rfl⟩;go_wp2_with(refine ur (.store 3 (.tmp 24) (.tmp 22)) J (af J g 1 (.int .i64 (n:Int)) R1 ap uZ ?_));intro w3 B3 g3 _;have N3:=N1.uH (uK.vj g3 R1 az);have gg:=uC (uM k1 _) g3 (.inl J);go_wp2_with fail;go_ret;exact⟨_,J,N3,B3,gg,h3⟩
 ·simp only[goB,Xe,goN]at*;go_wp2_with fail;refine(Mi x h3.ne _).mono ?_;rintro _ w2 ⟨rfl,rfl⟩;go_wp2_with fail;exact⟨J,J,uM k1 _⟩
def QV(w:World)(v:Value)(q:Qn):Prop:=∃cs,v= .agg cs.toArray/\Ks w cs q
def RV(w:World)(v:Value)(r:RR):Prop:=∃cs,v= .agg cs.toArray/\xv w cs r
theorem Jg{α:Type}{V:World->Value->α->Prop}{g:Nat}{o:Except Int (α×Nat)}{x:Int}(ho:o= .error x)(h:JX V g m w o e w'):e= .panicked (Mh x)/\w.grownBy w' (some g):=by subst ho;exact h
theorem Iy{α:Type}{V:World->Value->α->Prop}{g:Nat}{o:Except Int (α×Nat)}{x:α}{p:Nat}(ho:o= .ok (x,p))(h:JX V g m w o e w'):∃v,e= .returned v/\V w' v x/\EZ w' g m p/\w.grownBy w' (some g)/\p<=m.length:=by subst ho;exact h
def qZ:List Value:=[.slice none 0 0,.int .i64 0,.int .i64 0]
theorem Ns(g:Nat)(m:List UInt8)(a:Nat)(w:World)(h:EZ w g m a)(hl:m.length<=65535)(ha:a<=m.length):
  Calls prog 215 #[.pointer (some ⟨g,0,none⟩)] w (JX QV g m w (wk m a)):=by
 have hgl:g<w.heap.size:=F.lt h;have kb:Below w.heap.size w (w.alloc (.cells #[.slice none 0 0,.int .i64 0,.int .i64 0] 28)):=gF;have R0:EZ (w.alloc (.cells #[.slice none 0 0,.int .i64 0,.int .i64 0] 28)) g m a:=F.G h kb hgl;have B0:=F.new w 28 qZ;have G0:=uM kb (some g);have N1:=Y (On g m a _ R0 hl ha);unfold wk;cases U:yd m a with
 |error x=>simp only;go_enter func215,ntmps215;go_wp2_with fail;refine N1.out.mono ?_;intro e w1 hr;obtain⟨rfl,g1⟩:=Jg U hr;go_wp2_with fail;exact⟨J,J,uC G0 g1 (.inl J)⟩
 |ok y=>
 obtain⟨nm,p1⟩:=y;simp only;cases X:wv m 2 p1 with
 |error x=>simp only;go_enter func215,ntmps215;go_wp2_with fail;refine N1.out.mono ?_;intro e w1 hr;obtain⟨v,rfl,nv,R1,g1,l1⟩:=Iy U hr;have N2:=Y (AE g m p1 2 w1 R1 hl l1 (.inl J));go_wp2_with fail;refine N2.out.mono ?_;intro e w2 hr;obtain⟨rfl,g2⟩:=Jg X hr;go_wp2_with fail;exact⟨J,J,uC (uC G0 g1 (.inl J)) g2 (.inl J)⟩
 |ok y=>
 obtain⟨O,p2⟩:=y;simp only;cases h3:wv m 2 p2 with
 |error x=>simp only;go_enter func215,ntmps215;go_wp2_with fail;refine N1.out.mono ?_;intro e w1 hr;obtain⟨v,rfl,nv,R1,g1,l1⟩:=Iy U hr;have N2:=Y (AE g m p1 2 w1 R1 hl l1 (.inl J));go_wp2_with fail;refine N2.out.mono ?_;intro e w2 hr;obtain⟨v2,rfl,rfl,R2,g2,l2⟩:=Iy X hr;have N3:=Y (AE g m p2 2 w2 R2 hl l2 (.inl J));go_wp2_with fail;refine N3.out.mono ?_;intro e w3 hr;obtain⟨rfl,g3⟩:=Jg h3 hr;go_wp2_with fail;exact⟨J,J,uC (uC (uC G0 g1 (.inl J)) g2 (.inl J)) g3 (.inl J)⟩
 |ok y=>
 obtain⟨N,p3⟩:=y;simp only;go_enter func215,ntmps215;go_wp2_with fail;refine N1.out.mono ?_;intro e w1 hr;obtain⟨v,rfl,nv,R1,g1,l1⟩:=Iy U hr;have N2:=Y (AE g m p1 2 w1 R1 hl l1 (.inl J));have B1:=B0.grown g1 aA;clear hr;go_wp2_with fail;refine N2.out.mono ?_;intro e w2 hr;obtain⟨v2,rfl,rfl,R2,g2,l2⟩:=Iy X hr;have N3:=Y (AE g m p2 2 w2 R2 hl l2 (.inl J));have B2:=B1.grown g2 aA;replace nv:=nv.uH (uK.vj g2 R1 az);clear hr;go_wp2_with fail;refine N3.out.mono ?_;intro e w3 hr;obtain⟨v3,rfl,rfl,R3,g3,l3⟩:=Iy h3 hr;have B3:=B2.grown g3 aA;replace nv:=nv.uH (uK.vj g3 R2 az);have gg:=uC (uC (uC G0 g1 (.inl J)) g2 (.inl J)) g3 (.inl J);obtain⟨A,c,hv,-⟩:=nv.form;subst hv;clear hr N1 N2 N3 B0 B1 B2 R0 R1 R2 g1 g2 g3 G0 kb h U X h3;go_wp2_with(refine ur (.store 28 (.tmp 2) (.tmp 13)) J (ab J w.heap.size 0 [.slice A nm.length c,.int .i64 (O:Int),.int .i64 (N:Int)] B3 cH xu aP ?_));intro w4 B4 g4 _;have R4:=F.grown R3 g4 aA;replace nv:=nv.uH (uK.vj g4 B3 az);have gg4:w.grownBy w4 (some g):=uC gg g4 (.inr (fun k z=>by injection z with z;omega));go_wp2_with fail;refine xd J w.heap.size J B4 _ underlying28 J xu J ?_;exact⟨_,J,⟨_,J,.slice A nm.length c,J,nv⟩,R4,gg4,l3⟩
theorem AF{α:Type}{V:World->Value->α->Prop}{g:Nat}{o:Except Int (α×Nat)}(h:JX V g m w o e w'):
  (∃x,o= .error x/\e= .panicked (Mh x)/\w.grownBy w' (some g))\/(∃x p v,o= .ok (x,p)/\e= .returned v/\V w' v x/\EZ w' g m p/\w.grownBy w' (some g)/\p<=m.length):=by
 cases o with
 |error x=>exact .inl ⟨x,J,h⟩
 |ok y=>obtain⟨x,p⟩:=y;obtain⟨v,h⟩:=h;exact .inr ⟨x,p,v,J,h⟩
theorem vQ{a b c:World}{g:Nat}(h:a.grownBy b (some g))(k:b.grownBy c (some g)):a.grownBy c (some g):=uC h k (.inl J)
theorem Oo{p n q:Nat}(h:wv m 2 p= .ok (n,q)):n<65536:=by
 unfold wv at h;split at h
 ·cases h
 ·injection h with h;injection h with U X;rw[<-U];exact Bh _ 2 aA
theorem Sw(g:Nat)(m:List UInt8)(a:Nat)(w:World)(h:EZ w g m a)(hl:m.length<=65535)(ha:a<=m.length):
  Calls prog 241 #[.pointer (some ⟨g,0,none⟩)] w (JX RV g m w (vI m a)):=by
 have hgl:g<w.heap.size:=F.lt h;have kb:Below w.heap.size w (w.alloc (.cells wm.toArray 119)):=gF;have R0:EZ (w.alloc (.cells wm.toArray 119)) g m a:=F.G h kb hgl;have B0:=F.new w 119 wm;have G0:=uM kb (some g);obtain⟨w0,hw0⟩:∃w0,w.alloc (.cells wm.toArray 119)=w0:=gG;rw[hw0]at R0 B0 G0;have HW:Hid (w.alloc (.cells #[.slice none 0 0,.int .i64 0,.int .i64 0,.int .i64 0,.int .i64 0,.int .u8 0,.int .u8 0,.int .u8 0,.int .u8 0,.int .u8 0,.int .u8 0,.int .u8 0,.int .u8 0,.int .u8 0,.int .u8 0,.int .u8 0,.int .u8 0,.int .u8 0,.int .u8 0,.int .u8 0,.int .u8 0,.int .i64 0,.slice none 0 0,.slice none 0 0,.int .i64 0,.int .i64 0,.int .i64 0,.int .i64 0,.int .i64 0,.int .i64 0,.int .i64 0,.int .i64 0,.string ⟨#[]⟩] 119)=w0):=Y (by rw[<-hw0,ab4]);have N1:=Y (On g m a _ R0 hl ha);clear hw0 kb h;go_enter func241,ntmps241;go_wp2_with fail;rw[HW.out];refine N1.out.mono ?_;intro e w1 hr;rcases AF hr with⟨x,U,rfl,g1⟩|⟨nm,p1,v,U,rfl,nv,R1,g1,l1⟩
 ·go_wp2_with fail;exact⟨J,by rw[show vI m a= .error x by simp only[vI,U]];exact⟨J,vQ G0 g1⟩⟩
 have G1:=vQ G0 g1;have B1:=B0.grown g1 aA;have N2:=Y (AE g m p1 2 w1 R1 hl l1 (.inl J));clear hr N1 HW G0 B0 g1;go_wp2_with fail;refine N2.out.mono ?_;intro e w2 hr;rcases AF hr with⟨x,X,rfl,g2⟩|⟨O,p2,v2,X,rfl,rfl,R2,g2,l2⟩
 ·go_wp2_with fail;exact⟨J,by rw[show vI m a= .error x by simp only[vI,U,X]];exact⟨J,vQ G1 g2⟩⟩
 have G2:=vQ G1 g2;have B2:=B1.grown g2 aA;replace nv:=nv.uH (uK.vj g2 R1 az);have N3:=Y (AE g m p2 2 w2 R2 hl l2 (.inl J));clear hr N2 G1 B1 g2 R1;go_wp2_with fail;refine N3.out.mono ?_;intro e w3 hr;rcases AF hr with⟨x,h3,rfl,g3⟩|⟨N,p3,v3,h3,rfl,rfl,R3,g3,l3⟩
 ·go_wp2_with fail;exact⟨J,by rw[show vI m a= .error x by simp only[vI,U,X,h3]];exact⟨J,vQ G2 g3⟩⟩
 have G3:=vQ G2 g3;have B3:=B2.grown g3 aA;replace nv:=nv.uH (uK.vj g3 R2 az);have N4:=Y (AE g m p3 4 w3 R3 hl l3 (.inr J));clear hr N3 G2 B2 g3 R2;go_wp2_with fail;refine N4.out.mono ?_;intro e w4 hr;rcases AF hr with⟨x,h4,rfl,g4⟩|⟨ak,p4,v4,h4,rfl,rfl,R4,g4,l4⟩
 ·go_wp2_with fail;exact⟨J,by rw[show vI m a= .error x by simp only[vI,U,X,h3,h4]];exact⟨J,vQ G3 g4⟩⟩
 have G4:=vQ G3 g4;have B4:=B3.grown g4 aA;replace nv:=nv.uH (uK.vj g4 R3 az);have N5:=Y (AE g m p4 2 w4 R4 hl l4 (.inl J));clear hr N4 G3 B3 g4 R3;go_wp2_with fail;refine N5.out.mono ?_;intro e w5 hr;rcases AF hr with⟨x,h5,rfl,g5⟩|⟨sz,p5,v5,h5,rfl,rfl,R5,g5,l5⟩
 ·go_wp2_with fail;exact⟨J,by rw[show vI m a= .error x by simp only[vI,U,X,h3,h4,h5]];exact⟨J,vQ G4 g5⟩⟩
 have G5:=vQ G4 g5;have B5:=B4.grown g5 aA;replace nv:=nv.uH (uK.vj g5 R4 az);have hsz:=Oo h5;have c1:=F.M R5 1 J;clear hr N5 G4 B4 g5 R4;by_cases hs:m.length<p5+sz
 case pos=>have T:=Y (Sv g m p5 sz w5 R5 hl l5 hs I);go_wp2_with fail;refine T.out.mono ?_;rintro _ w6 ⟨rfl,g6⟩;go_wp2_with fail;exact⟨J,by rw[show vI m a= .error 1 by simp only[vI,U,X,h3,h4,h5,if_pos hs]];exact⟨J,vQ G5 g6⟩⟩
 have T:=Y (Om g m p5 sz w5 R5 hl I);go_wp2_with fail;refine T.out.mono ?_;rintro _ w6 ⟨rfl,R6,g6⟩;have G6:=vQ G5 g6;have B6:=B5.grown g6 aA;replace nv:=nv.uH (uK.vj g6 R5 az);have c0:=F.M R6 0 J;have GT:=Y (Z6 m p5 sz O N w6 I I);clear T G5 B5 g6 R5 c1;cases hgr:yL m p5 sz O N with
 |error x=>rw[hgr]at GT;go_wp2_with fail;refine GT.out.mono ?_;rintro _ w7 ⟨hx,rfl,b7⟩;have G7:w.grownBy w7 (some g):=vR G6 b7;have hz7:=G7.size;clear GT B6 R6 c0 G6;go_wp2_with(refine ur (.store 119 (.tmp 9) (.tmp 38)) J (ab J w7.heap.size 0 wm (F.wE _ _ wm _ J) bj cD wJ ?_));intro w8 B8 g8 _;have G8:w.grownBy w8 (some g):=jF;clear B8 g8;go_wp2_with fail;refine(Mi x hx _).mono ?_;rintro _ w9 ⟨rfl,rfl⟩;go_wp2_with fail;exact⟨J,by rw[show vI m a= .error x by simp only[vI,U,X,h3,h4,h5,if_neg hs,hgr]];exact⟨J,G8⟩⟩
 |ok r0=>
  rw[hgr]at GT;go_wp2_with fail;refine GT.out.mono ?_;rintro _ w7 ⟨cs,rfl,hO,b7⟩;have G7:w.grownBy w7 (some g):=vR G6 b7;have hz7:=G7.size;have hcl:=hO.len;have hc1:=Y hO.one;have kn:Below w7.heap.size w7 (w7.alloc (.cells wm.toArray 119)):=gF;have R7:=(F.G (F.G R6 b7 (F.lt R6)) kn (by have:=F.lt R6;have:=b7.size;omega));have T7:=(B6.G b7 B6.lt).G kn (by have:=B6.lt;have:=b7.size;omega);replace nv:=(nv.uH (uK.G b7)).uH (uK.G kn);replace hO:=hO.uH (uK.G kn);have Bn:=F.new w7 119 wm;have hT2:=B6.lt;have hb7:=b7.size;clear GT B6 R6 c0 G6 b7 kn;go_wp2_with(refine ur (.store 119 (.tmp 9) (.tmp 38)) J (ab J w7.heap.size 0 cs Bn bj cI hc1.out ?_));intro w8 B8 g8 _;rw[List.drop_of_length_le bj,List.append_nil]at B8;have R8:=F.grown R7 g8 aA;have T8:=T7.grown g8 aA;have G8:w.grownBy w8 (some g):=jF;replace nv:=nv.uH (uK.vj g8 Bn az);replace hO:=hO.uH (uK.vj g8 Bn az);have hg9:g<w7.heap.size:=I;have hw9:w.heap.size<w7.heap.size:=I;clear R7 T7 G7 g8 Bn hc1 hT2 hb7 hz7;generalize w7.heap.size=g9 at*;go_wp2_with fail;refine(Wj _).mono ?_;rintro _ w9 ⟨rfl,rfl⟩;obtain⟨vn,vt,vm,hS,hwf,n1,n2,n3,agn⟩:=hO;have HCS:=Y hS;clear hS n1;obtain⟨A,c,hv,-⟩:=nv.form;subst hv;go_wp2_with(refine ur (.store 26 (.tmp 46) (.tmp 42)) J (af J g9 0 (.slice A nm.length c) B8 I vO ?_));intro w9 B9 g9_ _;obtain⟨M9,hM9⟩:∃ul,ul=cs.set 0 (.slice A nm.length c):=gG;rw[<-hM9]at B9;have lM9:M9.length=33:=jE;have HM9:=Y hM9;clear hM9;have R9:=F.grown R8 g9_ aA;have T9:=T8.grown g9_ aA;have G9:w.grownBy w9 (some g):=uC G8 g9_ (.inr (fun k z=>by injection z with z;omega));replace nv:=nv.uH (uK.vj g9_ B8 az);replace n2:=n2.uH (uK.vj g9_ B8 az);replace n3:=n3.uH (uK.vj g9_ B8 az);clear R8 T8 G8 g9_ B8;go_wp2_with(refine ur (.store 3 (.tmp 47) (.tmp 43)) J (af J g9 1 (.int .i64 (O:Int)) B9 I uZ ?_));intro wx Bx gx _;obtain⟨Mx,hMx⟩:∃ul,ul=M9.set 1 (.int .i64 (O:Int)):=gG;rw[<-hMx]at Bx;have lMx:Mx.length=33:=by rw[hMx,List.length_set];exact lM9
  have HMx:=Y hMx;clear hMx;have Rx:=F.grown R9 gx aA;have Tx:=T9.grown gx aA;have Gx:w.grownBy wx (some g):=uC G9 gx (.inr (fun k z=>by injection z with z;omega));replace nv:=nv.uH (uK.vj gx B9 az);replace n2:=n2.uH (uK.vj gx B9 az);replace n3:=n3.uH (uK.vj gx B9 az);clear R9 T9 G9 gx B9;go_wp2_with(refine ur (.store 3 (.tmp 48) (.tmp 44)) J (af J g9 2 (.int .i64 (N:Int)) Bx I uZ ?_));intro wy By gy _;obtain⟨My,hMy⟩:∃ul,ul=Mx.set 2 (.int .i64 (N:Int)):=gG;rw[<-hMy]at By;have lMy:My.length=33:=by rw[hMy,List.length_set];exact lMx
  have HMy:=Y hMy;clear hMy;have Ry:=F.grown Rx gy aA;have Ty:=Tx.grown gy aA;have Gy:w.grownBy wy (some g):=uC Gx gy (.inr (fun k z=>by injection z with z;omega));replace nv:=nv.uH (uK.vj gy Bx az);replace n2:=n2.uH (uK.vj gy Bx az);replace n3:=n3.uH (uK.vj gy Bx az);clear Rx Tx Gx gy Bx;go_wp2_with(refine ur (.store 3 (.tmp 49) (.tmp 45)) J (af J g9 3 (.int .i64 (ak:Int)) By I uZ ?_));intro wz Bz gz _;obtain⟨Mz,hMz⟩:∃ul,ul=My.set 3 (.int .i64 (ak:Int)):=gG;rw[<-hMz]at Bz;have lMz:Mz.length=33:=by rw[hMz,List.length_set];exact lMy
  have HMz:=Y hMz;clear hMz;have Rz:=F.grown Ry gz aA;have Tz:=Ty.grown gz aA;have Gz:w.grownBy wz (some g):=uC Gy gz (.inr (fun k z=>by injection z with z;omega));replace nv:=nv.uH (uK.vj gz By az);replace n2:=n2.uH (uK.vj gz By az);replace n3:=n3.uH (uK.vj gz By az);clear Ry Ty Gy gz By;have hMz:Mz=vX (.slice A nm.length c) vt vm {r0 with name:=nm,O:=O,N:=N,ak:=ak}:=by rw[HMz.out,HMy.out,HMx.out,HM9.out,HCS.out];rfl
  have OW:xv wz Mz {r0 with name:=nm,O:=O,N:=N,ak:=ak}:=⟨_,vt,vm,hMz,⟨hwf.1,hwf.2⟩,nv,n2,n3,agn⟩;have RE:Hid (vI m a= .ok ({r0 with name:=nm,O:=O,N:=N,ak:=ak},p5+sz)):=Y (by simp only[vI,U,X,h3,h4,h5,if_neg hs,hgr]);generalize({r0 with name:=nm,O:=O,N:=N,ak:=ak}:RR)=r9 at*;have o1:=Y OW.one;clear HMz HMy HMx HM9 HCS hMz nv n2 n3 hwf agn U X h3 h4 h5 hgr;go_wp2_with(first
   |(refine ur (.load 119 (.tmp 9)) rfl ?_;go_must(refine uu rfl _ _ rfl g9 0 rfl Bz 33 I _ underlying119 rfl uU Mz (wP I) ?_))
   |(refine ur (.store 119 (.tmp 2) (.tmp 50)) rfl (ab rfl w.heap.size 0 Mz Tz bj cJ o1.out ?_)))
  intro wq Bq gq _;rw[List.drop_of_length_le bj,List.append_nil]at Bq;have Rq:=F.grown Rz gq aA;have Gq:w.grownBy wq (some g):=uC Gz gq (.inr (fun k z=>by injection z with z;omega));have Oq:=OW.uH (uK.vj gq Tz az);clear Rz Gz Tz Bz gq OW;go_wp2_with fail;refine xd J w.heap.size J Bq _ underlying119 J cJ J ?_;rw[RE.out];exact⟨_,J,⟨Mz,J,Oq⟩,Rq,Gq,I⟩
theorem Sx(place:Nat):∀(cs:List Value) (k:Nat) (base:List Value),k+cs.length<=base.length->
  (cs.zipIdx k).foldl (fun(b:List Value) x=>b.set (0+x.2) x.1) base=base.take k++cs++base.drop (k+cs.length)
 |[],k,base,h=>by simp
 |c::cs,k,base,h=>by
  have z:k<base.length:=by simp at h;omega
  rw[List.zipIdx_cons,List.foldl_cons,Nat.zero_add,Sx place cs (k+1) (base.set k c) (by simp at h⊢;omega)];have e1:(base.set k c).take (k+1)=base.take k++[c]:=by rw[List.take_succ_eq_append_getElem bh];simp[List.take_set];exact List.set_eq_of_length_le aA
  have e2:(base.set k c).drop (k+1+cs.length)=base.drop (k+1+cs.length):=List.drop_set_of_lt I;rw[e1,e2];simp[Nat.add_assoc,Nat.add_comm 1]
theorem Z7(cs:List (Value×Nat)):∀(base:List Value),(cs.foldl (fun(b:Array Value) x=>b.setIfInBounds (0+x.2) x.1) base.toArray)=(cs.foldl (fun(b:List Value) x=>b.set (0+x.2) x.1) base).toArray:=by
 induction cs with
 |nil=>intro base;rfl
 |cons c cs ih=>intro base;rw[List.foldl_cons,List.foldl_cons,List.setIfInBounds_toArray,ih]
theorem Iz(n:Nat)(base:List Value)(cs:List Value)(U:cs.length=n)(X:base.length=n):Instr.fill (fun i=>some (i*n,n)) base.toArray [(0,.agg cs.toArray)]=some cs.toArray:=by
 have hc:(Value.agg cs.toArray).cells=cs.toArray:=rfl;unfold Instr.fill;simp only[Nat.zero_mul,hc,List.size_toArray,U,X];rw[if_neg ap];unfold Instr.fill;have e:(cs.toArray.zipIdx.foldl (fun(b:Array Value) x=>b.setIfInBounds (0+x.2) x.1) base.toArray)=cs.toArray:=by rw[<-Array.foldl_toList,Array.toList_zipIdx,List.toList_toArray,Z7,Sx 0 cs 0 base I];rw[List.take_zero,List.nil_append,List.drop_of_length_le I,List.append_nil]
 exact congrArg some e
theorem Mj{rest:List Oper}{Q:Exit->Act->World->Prop}(hg:o.guard=none)(x:Operand)(ho:o.op= .buildSlice 48 1 #[(0,x)])(cs:List Value)(hx:a.eval x= .agg cs.toArray)(hl:cs.length=33)
  (h:wpList prog ops Q rest (a.put o.dst (.slice (some ⟨w.heap.size,0,none⟩) 1 1)) (w.alloc (.cells cs.toArray 119))):wpList prog ops Q (o::rest) a w:=by
 obtain⟨i,hi,hz,adh,hby⟩:=info_parts Wf;refine wpList_buildSlice hg 48 119 1 #[(0,x)] ho cs.toArray i _ underlying48 hi hz cK cK ?_ h;rw[adh];have e:((#[(0,x)]:Array (Nat×Operand)).map fun(i,x)=>(i,a.eval x)).toList=[(0,.agg cs.toArray)]:=by simp[hx]
 rw[e];have:=Iz 33 ((Array.range (1*33)).map ((Value.agg wm.toArray).cells[· % (Value.agg wm.toArray).cells.size]!)).toList cs hl ap;exact sD
theorem u7.Cm{v:Value}{l:List RR}{r:RR}{uo:List (List Value)}(h:Ci (xv w1) uo l)(hr:xv w1 cs r)(hs:uK w1 w2)(ho:w2.ownsRow B 119 33 v' (l.length+1) (uo.flatten++cs)):u7 w2 B v' (l++[r]):=by
 exact sV
theorem Et(g:Nat)(m:List UInt8)(a n:Nat)(w:World)(h:EZ w g m a)(hl:m.length<=65535)(ha:a<=m.length)(hn:n<=65535):
  Calls prog 216 #[.pointer (some ⟨g,0,none⟩),.int .i64 n] w (JX (fun w' v l=>u7 w' w.heap.size v l/\l.length<=n) g m w (vl (vI m) n a)):=by
 obtain⟨aeI,hO⟩:∃aeI,aeI=vl (vI m) n a:=gG;rw[<-hO];have HO:Hid (xT [] (vl (vI m) (n-0) a)=aeI):=Y (by rw[Es,hO];rfl);clear hO;go_enter func216,ntmps216;go_wp2_with fail;go_loopw[5,7] (fun lv iv wr=>∃(k:Nat) (acc:List RR) (p:Nat),k<=n/\iv= .int .i64 k/\acc.length=k/\u7 wr w.heap.size lv acc/\EZ wr g m p/\p<=m.length/\w.grownBy wr (some g)/\Hid (xT acc (vl (vI m) (n-k) p)=aeI)) (fun _ iv _=>n-(intOf iv).toNat)
 case atStart=>exact⟨0,[],a,Nat.zero_le _,J,J,u7.nil _ _,h,ha,World.grownBy.refl _ _,HO⟩
 clear HO h ha;obtain⟨k,acc,p,z,rfl,hal,oR,R,lp,agc,HO⟩:=hrel;have HAL:=Y hal;have apU:acc.length<=65535:=I;clear hal;by_cases aB:k<n
 case pos=>
  have h1:(k:Int)<n:=I;have e1:n-k=(n-(k+1))+1:=I;rw[e1]at HO;have RC:=Y (Sw g m p wr R hl lp);obtain⟨A,c,hv⟩:=oR.form;subst hv;go_wp2_with fail;refine RC.out.mono ?_;intro e w1 hr;rcases AF hr with⟨x,U,rfl,g1⟩|⟨r,p',v,U,rfl,⟨cs,rfl,hO'⟩,R1,g1,l1⟩
  ·
   obtain rfl:aeI= .error x:=by rw[<-HO.out];exact Cr U
   go_wp2_with fail;exact⟨J,J,vQ agc g1⟩
  have o1:=oR.vj g1 R az az;have G1:=vQ agc g1;have HO1:Hid (xT (acc++[r]) (vl (vI m) (n-(k+1)) p')=aeI):=Y (by rw[<-Gi U];exact HO.out);have hcl:=hO'.len;have hc1:=Y hO'.one;clear hr RC oR R lp agc HO g1 U;have kn:Below w1.heap.size w1 (w1.alloc (.cells cs.toArray 119)):=gF;obtain⟨uo,ow,hE⟩:=o1;have ow2:=wC ow kn;have Bn:=F.new w1 119 cs;have hrg:(w1.alloc (.cells cs.toArray 119)).rangeAt w1.heap.size 0 cs:=by have:=Bn.range 0 33 I;exact pT
  have G2:=zN G1 (.cells cs.toArray 119);have hs1:=G1.size;have R2:=F.G R1 kn (F.lt R1);replace hE:=hE.mono (fun _ _ x=>x.uH (uK.G kn));replace hO':=hO'.uH (uK.G kn);go_wp2_with(first
   |(refine ur (.buildSlice 48 1 #[(0,.tmp 11)]) rfl ?_;go_must(refine Mj rfl (.tmp 11) rfl cs rfl hcl ?_))
   |(at_builtin;go_must(refine Bv _ rfl (.tmp 9) (.tmp 12) rfl w.heap.size _ acc.length uo.flatten rfl ow2 aA (some ⟨w1.heap.size,0,none⟩) 1 1 cs rfl (fun _=>⟨w1.heap.size,0,J,hrg⟩) I hc1.out I (acc.length+1) J ?_)))
  intro A' c' w2 o2 g2;have S2:=uK.own ow2 az g2;have o3:u7 w2 w.heap.size (.slice A' (acc.length+1) c') (acc++[r]):=u7.Cm (v:=.slice none 0 0) hE hO' S2 o2;have R3:EZ w2 g m p':=wh R2 ow2 az g2;have G3:w.grownBy w2 (some g):=uC G2 g2 (.inr (fun k z=>xZ ow2 k z));clear R1 R2 G1 G2 ow ow2 hE hO' Bn hrg S2 g2 o2 kn hc1 hcl;go_wp2_with fail;go_roundw
  case rel=>exact⟨k+1,acc++[r],p',I,gp,by simp[HAL.out],o3,R3,l1,G3,HO1⟩
  case measure=>simp[intOf];omega
 obtain rfl:k=n:=I;have h1:¬(k:Int)<k:=I;obtain rfl:aeI= .ok (acc,p):=lI;clear aB z HO;go_wp2_with fail;go_ret;exact⟨_,J,⟨oR,by have:=HAL.out;omega⟩,R,agc,lp⟩
theorem XG(p q:Addr)(w:World):
  CallsD prog 214 #[.pointer (some p),.pointer (some q)] .returning w fun e u' w'=>e= .returned (.tuple #[])/\u'= .returning/\w'=w:=by
 refine callsD_of_wpS func214 J fun c₀ cs hu=>?_
 apply wpS_seq;apply wpS_region;simp[wpOpsS,go_sem,recoverD,hu,ntmps214,Exit.thenS];refine NT hu ?_;refine KD [.pointer (some p),.pointer (some q),.nilIface,undef,undef,.nilIface,undef,undef,undef,undef,undef,undef,undef,undef,undef,undef,undef,undef,undef] aO ?_;exact rS
theorem zD:(prog.info? 142).map (·.size)=some 1:=by kernel_rfl
theorem xy:∀v∈uX,v.oneCell'=true:=Ah _ J J J J
theorem XH(b0:Nat)(L:List Value)(hL:L.length=14)(v1:Value)(x:Int)(w:World)(h0:F w b0 50 L)(U:F w (b0+1) 142 [v1]):
  CallsD prog 214 #[.pointer (some ⟨b0,0,none⟩),.pointer (some ⟨b0+1,0,none⟩)] (.panicking (Mh x)) w fun e u' w'=>
   e= .returned (.tuple #[])/\u'= .panicking [{v:=.iface 324 (.agg #[.int .i64 x]),recovered:=true}]/\F w' b0 50 uX/\F w' (b0+1) 142 [.int .i64 x]/\Below b0 w w':=by
 have hTa:∀w:World,(Instr.typeAssert (.iface 324 (.agg #[.int .i64 x])) 20 324 true).run prog w= .ok (.tuple #[.agg #[.int .i64 x],.bool true]) w:=fun _=>by kernel_rfl
 have l0:=h0.lt;have l1:=U.lt;refine callsD_of_wpS func214 J fun c₀ cs hu=>?_
 unfold Mh at hu;apply wpS_seq;apply wpS_region;simp[wpOpsS,go_sem,recoverD,hu,ntmps214,Exit.thenS];refine Li (u':=.panicking [{v:=.iface 324 (.agg #[.int .i64 x]),recovered:=true}]) ?_;refine KD [.pointer (some ⟨b0,0,none⟩),.pointer (some ⟨b0+1,0,none⟩),.iface 324 (.agg #[.int .i64 x]),undef,undef,.iface 324 (.agg #[.int .i64 x]),undef,undef,undef,undef,undef,undef,undef,undef,undef,undef,undef,undef,undef] aO ?_;clear hu;have kn:Below w.heap.size w (w.alloc (.cells #[.int .i64 x] 324)):=gF;have Bs:=F.new w 324 [.int .i64 x];have C0:=h0.G kn l0;have C1:=U.G kn l1;have kb:Below b0 w (w.alloc (.cells #[.int .i64 x] 324)):=kn.mono I;obtain⟨w1,hw1⟩:∃w1,w1=w.alloc (.cells #[.int .i64 x] 324):=gG;have HW:=Y hw1;rw[<-hw1]at Bs C0 C1 kb;clear hw1 kn h0 U;go_wp2_with fail;rw[<-HW.out];clear HW;refine wp_region_held_drew (S:=fun W=>W.cell? ⟨w.heap.size,0,none⟩=some (.int .i64 x)) (by kernel_rfl) (Bs.M 0 J) (fun K=>?_);refine ag 0 (some 16) (v:=.agg uX.toArray) J J (by kernel_rfl) (fun W hW=>by kernel_rfl) K ?_;simp only[E]
 (refine ag 1 (some 17) J J (by kernel_rfl) (fun W hW=>rfl) K ?_;simp only[E])
 refine vK 2 (some 18) 142 (.tmp 17) ⟨w.heap.size,0,none⟩ J J J J (by kernel_rfl) (by kernel_rfl) (by kernel_rfl) (fun _ _ _ h=>h) (by kernel_rfl) (fun W hW=>uB underlying142 J hW) K ?_;simp only[E];refine wu 3 none 50 (.tmp 0) (.tmp 16) (by kernel_rfl) J J J (by kernel_rfl) b0 0 J uX J C0.drew (by rw[hL];decide) uW xy ?_;intro w2 B2 g2 _;rw[Fi (by rw[hL];rfl)]at B2;have D1:=(C1.drew).grown g2 ap;have S2:=(Bs.drew).grown g2 aA;have k2:Below b0 w w2:=uq (w:=w1.drew) kb.drew g2 (by have:=kb.size;simp;omega) (Nat.le_refl _);refine⟨S2.M 0 J,?_⟩;simp only[E];refine uO 4 (by kernel_rfl) ?_;refine xS 4 142 (.tmp 1) (.tmp 18) J J J (by kernel_rfl) (b0+1) 0 J (.int .i64 x) J D1 ap zD J J ?_;intro w3 B3 g3 _;have E0:=B2.grown g3 ap;have S3:=S2.grown g3 aA;have k3:Below b0 w w3:=uq k2 g3 (by have:=k2.size;omega) I;refine⟨S3.M 0 J,?_⟩;simp only[E];refine wpAnyH_done (by kernel_rfl) ?_ _;go_wp2_with fail;go_end0;first|exact⟨J,J,E0,B3,k3⟩|exact⟨J,E0,B3,k3⟩
theorem Jh{P:Program}{Q:Exit->Act->World->Prop}{hb:Act->World->Prop}(i:Nat)(f:FuncId)(vs:Array Value)(hi:ops[i]?=some o)(hw:Region.wanted o (yielded ops a.tmps)=true)(he:(execOp a.eval o).run P w= .ok (.enter f vs) w)
  {R:Ending->World->Prop} (hc:Calls P f vs w R) (h:∀e w',R e w'->∃ch,e= .panicked ch/\Q (.panic ch) a w'):wpOp P ops Q i hb a w:=by
 unfold wpOp;simp only[hi,hw,if_true];left;unfold Oper.wp;rw[he];simp only[Oper.upon];refine hc.mono fun e w' hR=>?_
 obtain⟨ch,rfl,h'⟩:=h e w' hR;exact h'
def Eu(o:Except Int vU)(w:World)(e:Ending)(w':World):Prop:=
 match o with
 | .error x=>x≠0/\e= .returned (.tuple #[.agg uX.toArray,.int .i64 x])/\al w w'
 | .ok m=>∃cs,e= .returned (.tuple #[.agg cs.toArray,.int .i64 0])/\vf w' cs m/\al w w'
theorem Hk{tmps:Array Value}{R:Ending->World->Prop}{b0:Nat}{L:List Value}{x:Int}(X:tmps.getD 2 undef= .pointer (some ⟨b0,0,none⟩))(h3:tmps.getD 3 undef= .pointer (some ⟨b0+1,0,none⟩))(Z:F w b0 50 L)(hl:L.length=14)(he:F w (b0+1) 142 [.int .i64 x])(hR:R (.returned (.tuple #[.agg L.toArray,.int .i64 x])) w):
  Leaves prog f179 tmps R [] .returning w:=by
 have e1:=run_loadVar_row (P:=prog) w b0 50 50 L.toArray (0,0) _ Z underlying50 J (by rw[List.size_toArray,hl];exact uW);have c1:=he.M 0 J;have h2':tmps[2]?.getD undef= .pointer (some ⟨b0,0,none⟩):=gv;have h3':tmps[3]?.getD undef= .pointer (some ⟨b0+1,0,none⟩):=jc;have e2:(loadVar 142 ⟨b0+1,0,none⟩).run prog w= .ok (.int .i64 x) w:=by simp[loadVar,isAgg,run_underlying underlying142,c1,go_sem]
 refine⟨_,?_,hR⟩;simp[results,Tryz.results179,asAddr,h2',h3',e1,e2]
theorem PS(m:List UInt8)(w:World)(hm:65535<m.length)(hl:m.length<=maxLen):Calls prog 179 #[.string (bs m)] w (Eu (.error 3) w):=by
 have hm':(65535:Int)<m.length:=I;clear hm;go_enter_defers func179,ntmps179;go_wp2_with fail;simp[bodyPostD,Leaves,results,Tryz.results179,go_sem];exact⟨az,J,((Below.refl _ _).alloc (Nat.le_refl _) _).alloc ap _⟩
theorem Nt(m:List UInt8)(w:World)(hm:m.length<12):Calls prog 179 #[.string (bs m)] w (Eu (.error 1) w):=by
 have hm':¬(65535:Int)<m.length:=I;have H:=Y (fun w=>Nm m w hm);unfold Hd.agg Hd.zero yD at H;clear hm;go_enter_defers func179,ntmps179;go_wp2_with fail;refine(H.out _).mono ?_;rintro _ w1 ⟨rfl,b1⟩;have b0:∀o1 o2,Below w.heap.size w ((w.alloc o1).alloc o2):=gX;have HB:=um (b0 _ _) aA b1;have BM':F w1 w.heap.size 50 uX:=nX;have BE':F w1 (w.heap.size+1) 142 [.int .i64 0]:=jS;have kk:∀o1 o2,Below w1.heap.size w1 ((w1.alloc o1).alloc o2):=gX;have hsz:w.heap.size+2<=w1.heap.size:=by have:=BE'.lt;omega
 clear b1 b0 H;go_wp2_with(refine ur (.store 50 (.tmp 2) (.tmp 20)) J (ab J w.heap.size 0 uX (BM'.G (kk _ _) BM'.lt) az uW xy ?_));intro w2 B2 g2 _;have E2:=(BE'.G (kk _ _) BE'.lt).grown g2 ap;have b2:=uq (um HB HB.size (kk _ _)) g2 aA (Nat.le_refl _);clear BM' BE' kk g2 HB;go_wp2_with(refine ur (.store 142 (.tmp 3) (.tmp 21)) J (af J (w.heap.size+1) 0 (.int .i64 1) E2 ap zD ?_));intro w3 E3 g3 _;have B3:=B2.grown g3 ap;have b3:=uq b2 g3 b2.size I;clear B2 E2 b2 g3;go_wp2_with fail;refine Hk J J B3 J E3 ?_;exact⟨az,J,b3⟩
theorem Z8:(prog.info? 28).map (fun i=>(i.zero,i.size,i.bytes))=some (some (.agg qZ.toArray),3,40):=by kernel_rfl
theorem Gk(w:World)(cs:List Value)(hl:cs.length=3):(Instr.buildSlice 47 1 #[(0,.agg cs.toArray)]).run prog w= .ok (.slice (some ⟨w.heap.size,0,none⟩) 1 1) (w.alloc (.cells cs.toArray 28)):=by
 obtain⟨i,hi,hz,adh,hby⟩:=info_parts Z8;refine run_buildSlice w 47 28 1 _ cs.toArray i _ underlying47 hi hz cK cK ?_;rw[adh];have:=Iz 3 ((Array.range (1*3)).map ((Value.agg qZ.toArray).cells[· % (Value.agg qZ.toArray).cells.size]!)).toList cs hl ap;exact sD
theorem CR(w:World)(O:TypeId)(B:Nat)(v:Value)(n:Nat)(xs:List Value)(adU:w.ownsRow B 28 3 v n xs)(hB:B<=w.heap.size)(b c:Nat)(news:List Value)(hr:w.rangeAt b 0 news)(hl:news.length=3)(U:∀u∈news,u.oneCell'=true)(Z:n<=300000):
  ∃v' w',(Builtin.append_ #[47,47] O #[v,.slice (some ⟨b,0,none⟩) 1 c]).run prog w= .ok v' w'/\w'.ownsRow B 28 3 v' (n+1) (xs++news)/\w.grownBy w' v.ownBlock:=by
 obtain⟨i,hi,hz,adh,hby⟩:=info_parts Z8;obtain⟨v',w',hr,X,h3,_,h5⟩:=run_append_own_at (P:=prog) w B 47 O 28 i _ 3 40 underlying47 hi hz adh hby J I v n xs adU ⟨b,0,none⟩ 1 c news I (fun j u hu=>by
  have agU:(⟨b,0,none⟩:Addr).add j=⟨b,0+j,none⟩:=gT;rw[agU];exact hr j u hu) U aK I hB
 exact tz
theorem Cs{x:Value}{O:TypeId}(sl y:Operand)(ho:o.op= .call {callee:=.builtin .append,args:= #[sl,y],argTypes:= #[47,47]})(hty:o.type=O)(hs:a.eval sl=v)(hy:a.eval y=x)
  (hr:(Builtin.append_ #[47,47] O #[v,x]).run prog w= .ok v' w'):(execOp a.eval o).run prog w= .ok (.value v') w':=by
 exact qb
theorem DX(x:Operand)(ho:o.op= .buildSlice 47 1 #[(0,x)])(hx:a.eval x=v)(hr:(Instr.buildSlice 47 1 #[(0,v)]).run prog w= .ok v' w'):(execOp a.eval o).run prog w= .ok (.value v') w':=by
 exact qF
theorem xx.Cm{l:List Qn}{r:Qn}{uo:List (List Value)}(h:Ci (Ks w1) uo l)(hr:Ks w1 cs r)(hs:uK w1 w2)(ho:w2.ownsRow B 28 3 v' (l.length+1) (uo.flatten++cs)):xx w2 B v' (l++[r]):=by
 exact sV
end Go.Proofs.YthnbcmlnpdabhaaGreat
