/-
  Layer 14 (message):the reader:take,num,check,name.
-/
import Derived.Test.YthnbcmlnpdabhaaGreatHCz
import Derived.Great.BuildSlice
namespace Go.Proofs.YthnbcmlnpdabhaaGreat
open _root_.Go.Proofs.Tryz
set_option maxHeartbeats 8000000
open Go.RowKit
set_option maxRecDepth 100000
set_option linter.unusedVariables false
set_option linter.unusedSimpArgs false
variable {m:List UInt8} {w w' w1 w2:World} {e:Ending} {a:Act} {ops:Array Oper} {o:Oper} {B:Nat} {v v':Value} {cs:List Value}
def Ei(w:World)(g:Nat)(m:List UInt8)(a:Nat):Prop:=Z w g 327 [.string (bs m),.int .i64 (a:Int)]
def Lf(e:Int):List PanicEntry:=[{v:=.iface 324 (.agg #[.int .i64 e]),recovered:=false}]
def Js{α:Type}(V:World->Value->α->Prop)(g:Nat)(m:List UInt8)(w:World)(o:Except Int (α×Nat))(e:Ending)(w':World):Prop:=
 match o with
 | .error x=>e= .panicked (Lf x)/\w.grownBy w' (some g)
 | .ok (x,p)=>∃v,e= .returned v/\V w' v x/\Ei w' g m p/\w.grownBy w' (some g)/\p<=m.length
theorem NB(g:Nat)(m:List UInt8)(a n:Nat)(w:World)(h:Ei w g m a)(hl:m.length<=65535)(hn:a+n<=m.length):
  Calls prog 250 #[.pointer (some ⟨g,0,none⟩),.int .i64 n] w (fun e w'=>e= .returned (.string (bs ((m.take (a+n)).drop a)))/\Ei w' g m (a+n)/\w.grownBy w' (some g)):=by
 have c0:=h.K 0 J;have c1:=h.K 1 J;have f1:=h.frozen 1;have hn':(a:Int)+n<=m.length:=I;have e1:((a:Int)+n).toNat=a+n:=I;have e2:((a:Int)+n-n).toNat=a:=I;go_enter func250,ntmps250;go_wp2_with fail;go_quiet(fail);go_wp2_with fail;go_quiet(fail);go_wp2_with fail;go_ret;refine⟨?_,?_,xQ (uq (xQ (World.grownBy.refl _ _) _) _ _) _⟩
 ·simp
 ·
  have:=fun i j=>((h.drewN i).set 1 (.int .i64 ((a+n:Nat):Int))).drewN j
  simpa[Ei]using this _ _
theorem QW(g:Nat)(m:List UInt8)(a n:Nat)(w:World)(h:Ei w g m a)(hl:m.length<=65535)(ha:a<=m.length)(hn:m.length<a+n)(hn2:n<=100000):
  Calls prog 250 #[.pointer (some ⟨g,0,none⟩),.int .i64 n] w (fun e w'=>e= .panicked (Lf 1)/\w.grownBy w' (some g)):=by
 have c0:=h.K 0 J;have c1:=h.K 1 J;have hn':(m.length:Int)-a<n:=I;go_enter func250,ntmps250;exact qv
theorem Vm(w:World):Calls prog 217 #[.int .i64 0] w (fun e w'=>e= .returned (.tuple #[])/\w=w'):=by
 go_enter func217,ntmps217;go_wp2_with fail;go_end0;exact⟨J,J⟩
theorem Lh(x:Int)(hx:x≠0)(w:World):Calls prog 217 #[.int .i64 x] w (fun e w'=>e= .panicked (Lf x)/\w=w'):=by
 have hx':(x !=0)=true:=iJ;clear hx;go_enter func217,ntmps217;go_wp2_with fail;exact⟨J,J,J⟩
theorem Vn(m:List UInt8)(k p:Nat)(h:p+k<=m.length):((m.take (p+k)).drop p).length=k:=by simp;omega
theorem zL(g:Nat)(m:List UInt8)(a k:Nat)(w:World)(h:Ei w g m a)(hl:m.length<=65535)(ha:a<=m.length)(O:k=2\/k=4):
  Calls prog 240 #[.pointer (some ⟨g,0,none⟩),.int .i64 k] w (Js (fun _ v n=>v= .int .i64 ((n:Nat):Int)) g m w (vH m k a)):=by
 unfold vH;by_cases hs:m.length<a+k
 ·rw[if_pos hs];have T:=Y (QW g m a k w h hl ha hs I);go_enter func240,ntmps240;go_wp2_with fail;refine T.out.mono ?_;rintro _ w1 ⟨rfl,g1⟩;go_wp2_with fail;exact⟨J,J,g1⟩
 ·
  rw[if_neg hs];have T:=Y (NB g m a k w h hl I);have hd:=Vn m k a I;have hhw:(hw (k:Int):Int)=k:=by rcases O with rfl|rfl<;>rfl
  have hTV:zp ((m.take (a+k)).drop a) false ((hw (k:Int):Nat):Int)=(m.take (a+k)).drop a:=by rw[hhw];unfold zp;rw[Int.toNat_natCast,if_neg (by rw[hd];simp),List.take_of_length_le I]
  generalize(m.take (a+k)).drop a=d at*;go_enter func240,ntmps240;go_wp2_with fail;refine T.out.mono ?_;rintro _ w1 ⟨rfl,U,g1⟩;go_wp2_with fail;refine(Dz d w1).mono ?_;rintro _ w2 ⟨rfl,e2,b2⟩;have tM:=Y (JU w1.heap.size d false (k:Int) w2 e2 aJ);rw[hTV]at tM;have R2:=U.G b2 U.lt;have hgn:g<w1.heap.size:=U.lt;have g2:=tU g1 (uj b2 none) (.inr (fun k O=>by cases O));have hsz:=g1.size;clear hTV e2 b2 T;generalize w1.heap.size=gy at*;go_wp2_with fail;refine tM.out.mono ?_;rintro _ w3 ⟨rfl,e3,g3⟩;have R3:=R2.grown g3 az;have g3':=tU g2 g3 (.inr (fun k O=>by injection O with O;omega));go_wp2_with fail;go_ret;exact⟨_,J,J,R3,g3',I⟩
theorem ND(g:Nat)(m:List UInt8)(a:Nat)(w:World)(h:Ei w g m a)(hl:m.length<=65535)(ha:a<=m.length):
  Calls prog 239 #[.pointer (some ⟨g,0,none⟩)] w (Js zK g m w (xF m a)):=by
 have afr:=Y (fun w=>U6 m a w I);have hgl:=h.lt;unfold CP at afr;rcases zJ m a with⟨l,n,U,X,h3,h4,h5⟩|⟨x,U,X,h3⟩;all_goals
  rw[U]at afr;rw[X];go_enter func239,ntmps239;go_wp2_with fail;refine wp_region_held_drew (S:=fun W=>Ei W g m a) (by kernel_rfl) h.drew (fun M=>?_)
  (refine ag 0 (some 7) J J (by kernel_rfl) (fun W hW=>rfl) M ?_;simp only[z])
  (refine ag 1 (some 8) J J (by kernel_rfl) (fun W hW=>rfl) M ?_;simp only[z])
  (refine ag 2 (some 9) J J (by kernel_rfl) (fun W hW=>rfl) M ?_;simp only[z])
  refine uZ 3 (some 10) 9 (.tmp 9) ⟨g,0,none⟩ J J J J (by kernel_rfl) (by kernel_rfl) (by kernel_rfl) (fun _ _ _ h=>h) (by kernel_rfl) (fun W hW=>tV underlying9 J (Z.K hW 0 J)) M ?_;simp only[z]
  (refine ag 4 (some 11) J J (by kernel_rfl) (fun W hW=>rfl) M ?_;simp only[z])
  (refine ag 5 (some 12) J J (by kernel_rfl) (fun W hW=>rfl) M ?_;simp only[z])
  (refine ag 6 (some 13) J J (by kernel_rfl) (fun W hW=>rfl) M ?_;simp only[z])
  refine uZ 7 (some 14) 3 (.tmp 13) ⟨g,1,none⟩ J J J J (by kernel_rfl) (by kernel_rfl) (by kernel_rfl) (fun _ _ _ h=>h) (by kernel_rfl) (fun W hW=>tV underlying3 J (Z.K hW 1 J)) M ?_;simp only[z];refine uO 8 (some 15) 249 #[.string (bs m),.int .i64 (a:Int)] (by kernel_rfl) J J (by kernel_rfl) bm (afr.out _) ?_;rintro _ w1 ⟨v,rfl,hT,k1',_⟩;have k1:al w w1:=kE;have R1:Ei w1 g m a:=Z.G h k1 hgl;refine⟨_,J,R1,?_⟩;clear M;have M:=R1;simp only[z]
  (refine ag 9 (some 6) J J (by kernel_rfl) (fun W hW=>rfl) M ?_;simp only[z])
  (refine ag 10 (some 16) J J (by kernel_rfl) (fun W hW=>rfl) M ?_;simp only[z])
  (refine ag 11 (some 17) J J (by kernel_rfl) (fun W hW=>rfl) M ?_;simp only[z])
  (refine ag 12 (some 18) J J (by kernel_rfl) (fun W hW=>rfl) M ?_;simp only[z])
  (refine ag 13 (some 3) J J (by kernel_rfl) (fun W hW=>rfl) M ?_;simp only[z])
  (refine ag 14 (some 4) J J (by kernel_rfl) (fun W hW=>rfl) M ?_;simp only[z])
  (refine ag 15 (some 5) J J (by kernel_rfl) (fun W hW=>rfl) M ?_;simp only[z])
  refine wpAnyH_done (by kernel_rfl) ?_ _;clear M afr k1'
 ·have N1:=zK.mk' hT h4 h5;simp only[goB,V5,goN]at*;go_wp2_with fail;refine(Vm _).mono ?_;rintro _ w2 ⟨rfl,rfl⟩;go_wp2_with(refine tO (.store 3 (.tmp 24) (.tmp 22)) J (af J g 1 (.int .i64 (n:Int)) R1 ap uB ?_));intro w3 B3 g3 _;have N3:=N1.ue (ug.uG g3 R1 ax);have gg:=tU (uj k1 _) g3 (.inl J);go_wp2_with fail;go_ret;exact⟨_,J,N3,B3,gg,h3⟩
 ·simp only[goB,V5,goN]at*;go_wp2_with fail;refine(Lh x h3.ne _).mono ?_;rintro _ w2 ⟨rfl,rfl⟩;go_wp2_with fail;exact⟨J,J,uj k1 _⟩
def QV(w:World)(v:Value)(q:Qn):Prop:=∃cs,v= .agg cs.toArray/\JN w cs q
def RV(w:World)(v:Value)(r:RR):Prop:=∃cs,v= .agg cs.toArray/\wR w cs r
theorem IC{α:Type}{V:World->Value->α->Prop}{g:Nat}{o:Except Int (α×Nat)}{x:Int}(ho:o= .error x)(h:Js V g m w o e w'):e= .panicked (Lf x)/\w.grownBy w' (some g):=by subst ho;exact h
theorem Hv{α:Type}{V:World->Value->α->Prop}{g:Nat}{o:Except Int (α×Nat)}{x:α}{p:Nat}(ho:o= .ok (x,p))(h:Js V g m w o e w'):∃v,e= .returned v/\V w' v x/\Ei w' g m p/\w.grownBy w' (some g)/\p<=m.length:=by subst ho;exact h
def qZ:List Value:=[.slice none 0 0,.int .i64 0,.int .i64 0]
theorem MD(g:Nat)(m:List UInt8)(a:Nat)(w:World)(h:Ei w g m a)(hl:m.length<=65535)(ha:a<=m.length):
  Calls prog 215 #[.pointer (some ⟨g,0,none⟩)] w (Js QV g m w (vE m a)):=by
 have hgl:g<w.heap.size:=Z.lt h;have kb:Below w.heap.size w (w.alloc (.cells #[.slice none 0 0,.int .i64 0,.int .i64 0] 28)):=gj;have R0:Ei (w.alloc (.cells #[.slice none 0 0,.int .i64 0,.int .i64 0] 28)) g m a:=Z.G h kb hgl;have B0:=Z.new w 28 qZ;have G0:=uj kb (some g);have N1:=Y (ND g m a _ R0 hl ha);unfold vE;cases U:xF m a with
 |error x=>simp only;go_enter func215,ntmps215;go_wp2_with fail;refine N1.out.mono ?_;intro e w1 hr;obtain⟨rfl,g1⟩:=IC U hr;go_wp2_with fail;exact⟨J,J,tU G0 g1 (.inl J)⟩
 |ok y=>
 obtain⟨nm,p1⟩:=y;simp only;cases X:vH m 2 p1 with
 |error x=>simp only;go_enter func215,ntmps215;go_wp2_with fail;refine N1.out.mono ?_;intro e w1 hr;obtain⟨v,rfl,nv,R1,g1,l1⟩:=Hv U hr;have N2:=Y (zL g m p1 2 w1 R1 hl l1 (.inl J));go_wp2_with fail;refine N2.out.mono ?_;intro e w2 hr;obtain⟨rfl,g2⟩:=IC X hr;go_wp2_with fail;exact⟨J,J,tU (tU G0 g1 (.inl J)) g2 (.inl J)⟩
 |ok y=>
 obtain⟨E,p2⟩:=y;simp only;cases h3:vH m 2 p2 with
 |error x=>simp only;go_enter func215,ntmps215;go_wp2_with fail;refine N1.out.mono ?_;intro e w1 hr;obtain⟨v,rfl,nv,R1,g1,l1⟩:=Hv U hr;have N2:=Y (zL g m p1 2 w1 R1 hl l1 (.inl J));go_wp2_with fail;refine N2.out.mono ?_;intro e w2 hr;obtain⟨v2,rfl,rfl,R2,g2,l2⟩:=Hv X hr;have N3:=Y (zL g m p2 2 w2 R2 hl l2 (.inl J));go_wp2_with fail;refine N3.out.mono ?_;intro e w3 hr;obtain⟨rfl,g3⟩:=IC h3 hr;go_wp2_with fail;exact⟨J,J,tU (tU (tU G0 g1 (.inl J)) g2 (.inl J)) g3 (.inl J)⟩
 |ok y=>
 obtain⟨N,p3⟩:=y;simp only;go_enter func215,ntmps215;go_wp2_with fail;refine N1.out.mono ?_;intro e w1 hr;obtain⟨v,rfl,nv,R1,g1,l1⟩:=Hv U hr;have N2:=Y (zL g m p1 2 w1 R1 hl l1 (.inl J));have B1:=B0.grown g1 az;clear hr;go_wp2_with fail;refine N2.out.mono ?_;intro e w2 hr;obtain⟨v2,rfl,rfl,R2,g2,l2⟩:=Hv X hr;have N3:=Y (zL g m p2 2 w2 R2 hl l2 (.inl J));have B2:=B1.grown g2 az;replace nv:=nv.ue (ug.uG g2 R1 ax);clear hr;go_wp2_with fail;refine N3.out.mono ?_;intro e w3 hr;obtain⟨v3,rfl,rfl,R3,g3,l3⟩:=Hv h3 hr;have B3:=B2.grown g3 az;replace nv:=nv.ue (ug.uG g3 R2 ax);have gg:=tU (tU (tU G0 g1 (.inl J)) g2 (.inl J)) g3 (.inl J);obtain⟨A,c,hv,-⟩:=nv.form;subst hv;clear hr N1 N2 N3 B0 B1 B2 R0 R1 R2 g1 g2 g3 G0 kb h U X h3;go_wp2_with(refine tO (.store 28 (.tmp 2) (.tmp 13)) J (ab J w.heap.size 0 [.slice A nm.length c,.int .i64 (E:Int),.int .i64 (N:Int)] B3 cH xh aO ?_));intro w4 B4 g4 _;have R4:=Z.grown R3 g4 az;replace nv:=nv.ue (ug.uG g4 B3 ax);have gg4:w.grownBy w4 (some g):=tU gg g4 (.inr (fun k O=>by injection O with O;omega));go_wp2_with fail;refine wQ J w.heap.size J B4 _ underlying28 J xh J ?_;exact⟨_,J,⟨_,J,.slice A nm.length c,J,nv⟩,R4,gg4,l3⟩
theorem zM{α:Type}{V:World->Value->α->Prop}{g:Nat}{o:Except Int (α×Nat)}(h:Js V g m w o e w'):
  (∃x,o= .error x/\e= .panicked (Lf x)/\w.grownBy w' (some g))\/(∃x p v,o= .ok (x,p)/\e= .returned v/\V w' v x/\Ei w' g m p/\w.grownBy w' (some g)/\p<=m.length):=by
 cases o with
 |error x=>exact .inl ⟨x,J,h⟩
 |ok y=>obtain⟨x,p⟩:=y;obtain⟨v,h⟩:=h;exact .inr ⟨x,p,v,J,h⟩
theorem vi{a b c:World}{g:Nat}(h:a.grownBy b (some g))(k:b.grownBy c (some g)):a.grownBy c (some g):=tU h k (.inl J)
theorem NF{p n q:Nat}(h:vH m 2 p= .ok (n,q)):n<65536:=by
 unfold vH at h;split at h
 ·cases h
 ·injection h with h;injection h with U X;rw[<-U];exact Af _ 2 az
theorem QX(g:Nat)(m:List UInt8)(a:Nat)(w:World)(h:Ei w g m a)(hl:m.length<=65535)(ha:a<=m.length):
  Calls prog 241 #[.pointer (some ⟨g,0,none⟩)] w (Js RV g m w (uY m a)):=by
 have hgl:g<w.heap.size:=Z.lt h;have kb:Below w.heap.size w (w.alloc (.cells vG.toArray 119)):=gj;have R0:Ei (w.alloc (.cells vG.toArray 119)) g m a:=Z.G h kb hgl;have B0:=Z.new w 119 vG;have G0:=uj kb (some g);obtain⟨w0,hw0⟩:∃w0,w.alloc (.cells vG.toArray 119)=w0:=gp;rw[hw0]at R0 B0 G0;have HW:Hid (w.alloc (.cells #[.slice none 0 0,.int .i64 0,.int .i64 0,.int .i64 0,.int .i64 0,.int .u8 0,.int .u8 0,.int .u8 0,.int .u8 0,.int .u8 0,.int .u8 0,.int .u8 0,.int .u8 0,.int .u8 0,.int .u8 0,.int .u8 0,.int .u8 0,.int .u8 0,.int .u8 0,.int .u8 0,.int .u8 0,.int .i64 0,.slice none 0 0,.slice none 0 0,.int .i64 0,.int .i64 0,.int .i64 0,.int .i64 0,.int .i64 0,.int .i64 0,.int .i64 0,.int .i64 0,.string ⟨#[]⟩] 119)=w0):=Y (by rw[<-hw0,abf]);have N1:=Y (ND g m a _ R0 hl ha);clear hw0 kb h;go_enter func241,ntmps241;go_wp2_with fail;rw[HW.out];refine N1.out.mono ?_;intro e w1 hr;rcases zM hr with⟨x,U,rfl,g1⟩|⟨nm,p1,v,U,rfl,nv,R1,g1,l1⟩
 ·go_wp2_with fail;exact⟨J,by rw[show uY m a= .error x by simp only[uY,U]];exact⟨J,vi G0 g1⟩⟩
 have G1:=vi G0 g1;have B1:=B0.grown g1 az;have N2:=Y (zL g m p1 2 w1 R1 hl l1 (.inl J));clear hr N1 HW G0 B0 g1;go_wp2_with fail;refine N2.out.mono ?_;intro e w2 hr;rcases zM hr with⟨x,X,rfl,g2⟩|⟨E,p2,v2,X,rfl,rfl,R2,g2,l2⟩
 ·go_wp2_with fail;exact⟨J,by rw[show uY m a= .error x by simp only[uY,U,X]];exact⟨J,vi G1 g2⟩⟩
 have G2:=vi G1 g2;have B2:=B1.grown g2 az;replace nv:=nv.ue (ug.uG g2 R1 ax);have N3:=Y (zL g m p2 2 w2 R2 hl l2 (.inl J));clear hr N2 G1 B1 g2 R1;go_wp2_with fail;refine N3.out.mono ?_;intro e w3 hr;rcases zM hr with⟨x,h3,rfl,g3⟩|⟨N,p3,v3,h3,rfl,rfl,R3,g3,l3⟩
 ·go_wp2_with fail;exact⟨J,by rw[show uY m a= .error x by simp only[uY,U,X,h3]];exact⟨J,vi G2 g3⟩⟩
 have G3:=vi G2 g3;have B3:=B2.grown g3 az;replace nv:=nv.ue (ug.uG g3 R2 ax);have N4:=Y (zL g m p3 4 w3 R3 hl l3 (.inr J));clear hr N3 G2 B2 g3 R2;go_wp2_with fail;refine N4.out.mono ?_;intro e w4 hr;rcases zM hr with⟨x,h4,rfl,g4⟩|⟨ak,p4,v4,h4,rfl,rfl,R4,g4,l4⟩
 ·go_wp2_with fail;exact⟨J,by rw[show uY m a= .error x by simp only[uY,U,X,h3,h4]];exact⟨J,vi G3 g4⟩⟩
 have G4:=vi G3 g4;have B4:=B3.grown g4 az;replace nv:=nv.ue (ug.uG g4 R3 ax);have N5:=Y (zL g m p4 2 w4 R4 hl l4 (.inl J));clear hr N4 G3 B3 g4 R3;go_wp2_with fail;refine N5.out.mono ?_;intro e w5 hr;rcases zM hr with⟨x,h5,rfl,g5⟩|⟨sz,p5,v5,h5,rfl,rfl,R5,g5,l5⟩
 ·go_wp2_with fail;exact⟨J,by rw[show uY m a= .error x by simp only[uY,U,X,h3,h4,h5]];exact⟨J,vi G4 g5⟩⟩
 have G5:=vi G4 g5;have B5:=B4.grown g5 az;replace nv:=nv.ue (ug.uG g5 R4 ax);have hsz:=NF h5;have c1:=Z.K R5 1 J;clear hr N5 G4 B4 g5 R4;by_cases hs:m.length<p5+sz
 case pos=>have T:=Y (QW g m p5 sz w5 R5 hl l5 hs I);go_wp2_with fail;refine T.out.mono ?_;rintro _ w6 ⟨rfl,g6⟩;go_wp2_with fail;exact⟨J,by rw[show uY m a= .error 1 by simp only[uY,U,X,h3,h4,h5,if_pos hs]];exact⟨J,vi G5 g6⟩⟩
 have T:=Y (NB g m p5 sz w5 R5 hl I);go_wp2_with fail;refine T.out.mono ?_;rintro _ w6 ⟨rfl,R6,g6⟩;have G6:=vi G5 g6;have B6:=B5.grown g6 az;replace nv:=nv.ue (ug.uG g6 R5 ax);have c0:=Z.K R6 0 J;have GT:=Y (Zd m p5 sz E N w6 I I);clear T G5 B5 g6 R5 c1;cases hgr:yn m p5 sz E N with
 |error x=>rw[hgr]at GT;go_wp2_with fail;refine GT.out.mono ?_;rintro _ w7 ⟨hx,rfl,b7⟩;have G7:w.grownBy w7 (some g):=vk G6 b7;have hz7:=G7.size;clear GT B6 R6 c0 G6;go_wp2_with(refine tO (.store 119 (.tmp 9) (.tmp 38)) J (ab J w7.heap.size 0 vG (Z.vP _ _ vG _ J) bi cD vW ?_));intro w8 B8 g8 _;have G8:w.grownBy w8 (some g):=jw;clear B8 g8;go_wp2_with fail;refine(Lh x hx _).mono ?_;rintro _ w9 ⟨rfl,rfl⟩;go_wp2_with fail;exact⟨J,by rw[show uY m a= .error x by simp only[uY,U,X,h3,h4,h5,if_neg hs,hgr]];exact⟨J,G8⟩⟩
 |ok r0=>
  rw[hgr]at GT;go_wp2_with fail;refine GT.out.mono ?_;rintro _ w7 ⟨cs,rfl,hO,b7⟩;have G7:w.grownBy w7 (some g):=vk G6 b7;have hz7:=G7.size;have hcl:=hO.len;have hc1:=Y hO.one;have kn:Below w7.heap.size w7 (w7.alloc (.cells vG.toArray 119)):=gj;have R7:=(Z.G (Z.G R6 b7 (Z.lt R6)) kn (by have:=Z.lt R6;have:=b7.size;omega));have T7:=(B6.G b7 B6.lt).G kn (by have:=B6.lt;have:=b7.size;omega);replace nv:=(nv.ue (ug.G b7)).ue (ug.G kn);replace hO:=hO.ue (ug.G kn);have Bn:=Z.new w7 119 vG;have hT2:=B6.lt;have hb7:=b7.size;clear GT B6 R6 c0 G6 b7 kn;go_wp2_with(refine tO (.store 119 (.tmp 9) (.tmp 38)) J (ab J w7.heap.size 0 cs Bn bi cI hc1.out ?_));intro w8 B8 g8 _;rw[List.drop_of_length_le bi,List.append_nil]at B8;have R8:=Z.grown R7 g8 az;have T8:=T7.grown g8 az;have G8:w.grownBy w8 (some g):=jw;replace nv:=nv.ue (ug.uG g8 Bn ax);replace hO:=hO.ue (ug.uG g8 Bn ax);have hg9:g<w7.heap.size:=I;have hw9:w.heap.size<w7.heap.size:=I;clear R7 T7 G7 g8 Bn hc1 hT2 hb7 hz7;generalize w7.heap.size=g9 at*;go_wp2_with fail;refine(Vm _).mono ?_;rintro _ w9 ⟨rfl,rfl⟩;obtain⟨vn,vt,vm,hcs,hwf,n1,n2,n3,afB⟩:=hO;have HCS:=Y hcs;clear hcs n1;obtain⟨A,c,hv,-⟩:=nv.form;subst hv;go_wp2_with(refine tO (.store 26 (.tmp 46) (.tmp 42)) J (af J g9 0 (.slice A nm.length c) B8 I vh ?_));intro w9 B9 g9_ _;obtain⟨M9,hM9⟩:∃h2,h2=cs.set 0 (.slice A nm.length c):=gp;rw[<-hM9]at B9;have lM9:M9.length=33:=jv;have HM9:=Y hM9;clear hM9;have R9:=Z.grown R8 g9_ az;have T9:=T8.grown g9_ az;have G9:w.grownBy w9 (some g):=tU G8 g9_ (.inr (fun k O=>by injection O with O;omega));replace nv:=nv.ue (ug.uG g9_ B8 ax);replace n2:=n2.ue (ug.uG g9_ B8 ax);replace n3:=n3.ue (ug.uG g9_ B8 ax);clear R8 T8 G8 g9_ B8;go_wp2_with(refine tO (.store 3 (.tmp 47) (.tmp 43)) J (af J g9 1 (.int .i64 (E:Int)) B9 I uB ?_));intro wx Bx gx _;obtain⟨Mx,hMx⟩:∃h2,h2=M9.set 1 (.int .i64 (E:Int)):=gp;rw[<-hMx]at Bx;have lMx:Mx.length=33:=by rw[hMx,List.length_set];exact lM9
  have HMx:=Y hMx;clear hMx;have Rx:=Z.grown R9 gx az;have Tx:=T9.grown gx az;have Gx:w.grownBy wx (some g):=tU G9 gx (.inr (fun k O=>by injection O with O;omega));replace nv:=nv.ue (ug.uG gx B9 ax);replace n2:=n2.ue (ug.uG gx B9 ax);replace n3:=n3.ue (ug.uG gx B9 ax);clear R9 T9 G9 gx B9;go_wp2_with(refine tO (.store 3 (.tmp 48) (.tmp 44)) J (af J g9 2 (.int .i64 (N:Int)) Bx I uB ?_));intro wy By gy _;obtain⟨My,hMy⟩:∃h2,h2=Mx.set 2 (.int .i64 (N:Int)):=gp;rw[<-hMy]at By;have lMy:My.length=33:=by rw[hMy,List.length_set];exact lMx
  have HMy:=Y hMy;clear hMy;have Ry:=Z.grown Rx gy az;have Ty:=Tx.grown gy az;have Gy:w.grownBy wy (some g):=tU Gx gy (.inr (fun k O=>by injection O with O;omega));replace nv:=nv.ue (ug.uG gy Bx ax);replace n2:=n2.ue (ug.uG gy Bx ax);replace n3:=n3.ue (ug.uG gy Bx ax);clear Rx Tx Gx gy Bx;go_wp2_with(refine tO (.store 3 (.tmp 49) (.tmp 45)) J (af J g9 3 (.int .i64 (ak:Int)) By I uB ?_));intro wz Bz gz _;obtain⟨Mz,hMz⟩:∃h2,h2=My.set 3 (.int .i64 (ak:Int)):=gp;rw[<-hMz]at Bz;have lMz:Mz.length=33:=by rw[hMz,List.length_set];exact lMy
  have HMz:=Y hMz;clear hMz;have Rz:=Z.grown Ry gz az;have Tz:=Ty.grown gz az;have Gz:w.grownBy wz (some g):=tU Gy gz (.inr (fun k O=>by injection O with O;omega));replace nv:=nv.ue (ug.uG gz By ax);replace n2:=n2.ue (ug.uG gz By ax);replace n3:=n3.ue (ug.uG gz By ax);clear Ry Ty Gy gz By;have hMz:Mz=vy (.slice A nm.length c) vt vm {r0 with name:=nm,E:=E,N:=N,ak:=ak}:=by rw[HMz.out,HMy.out,HMx.out,HM9.out,HCS.out];rfl
  have OW:wR wz Mz {r0 with name:=nm,E:=E,N:=N,ak:=ak}:=⟨_,vt,vm,hMz,⟨hwf.1,hwf.2⟩,nv,n2,n3,afB⟩;have RE:Hid (uY m a= .ok ({r0 with name:=nm,E:=E,N:=N,ak:=ak},p5+sz)):=Y (by simp only[uY,U,X,h3,h4,h5,if_neg hs,hgr]);generalize({r0 with name:=nm,E:=E,N:=N,ak:=ak}:RR)=r9 at*;have o1:=Y OW.one;clear HMz HMy HMx HM9 HCS hMz nv n2 n3 hwf afB U X h3 h4 h5 hgr;go_wp2_with(first
   |(refine tO (.load 119 (.tmp 9)) rfl ?_;go_must(refine tP rfl _ _ rfl g9 0 rfl Bz 33 I _ underlying119 rfl uu Mz (wg I) ?_))
   |(refine tO (.store 119 (.tmp 2) (.tmp 50)) rfl (ab rfl w.heap.size 0 Mz Tz bi cJ o1.out ?_)))
  intro wq Bq gq _;rw[List.drop_of_length_le bi,List.append_nil]at Bq;have Rq:=Z.grown Rz gq az;have Gq:w.grownBy wq (some g):=tU Gz gq (.inr (fun k O=>by injection O with O;omega));have Oq:=OW.ue (ug.uG gq Tz ax);clear Rz Gz Tz Bz gq OW;go_wp2_with fail;refine wQ J w.heap.size J Bq _ underlying119 J cJ J ?_;rw[RE.out];exact⟨_,J,⟨Mz,J,Oq⟩,Rq,Gq,I⟩
theorem QY(place:Nat):∀(cs:List Value) (k:Nat) (base:List Value),k+cs.length<=base.length->
  (cs.zipIdx k).foldl (fun(b:List Value) x=>b.set (0+x.2) x.1) base=base.take k++cs++base.drop (k+cs.length)
 |[],k,base,h=>by simp
 |c::cs,k,base,h=>by
  have O:k<base.length:=by simp at h;omega
  rw[List.zipIdx_cons,List.foldl_cons,Nat.zero_add,QY place cs (k+1) (base.set k c) (by simp at h⊢;omega)];have e1:(base.set k c).take (k+1)=base.take k++[c]:=by rw[List.take_succ_eq_append_getElem bf];simp[List.take_set];exact List.set_eq_of_length_le az
  have e2:(base.set k c).drop (k+1+cs.length)=base.drop (k+1+cs.length):=List.drop_set_of_lt I;rw[e1,e2];simp[Nat.add_assoc,Nat.add_comm 1]
theorem Ze(cs:List (Value×Nat)):∀(base:List Value),(cs.foldl (fun(b:Array Value) x=>b.setIfInBounds (0+x.2) x.1) base.toArray)=(cs.foldl (fun(b:List Value) x=>b.set (0+x.2) x.1) base).toArray:=by
 induction cs with
 |nil=>intro base;rfl
 |cons c cs ih=>intro base;rw[List.foldl_cons,List.foldl_cons,List.setIfInBounds_toArray,ih]
theorem Hw(n:Nat)(base:List Value)(cs:List Value)(U:cs.length=n)(X:base.length=n):Instr.fill (fun i=>some (i*n,n)) base.toArray [(0,.agg cs.toArray)]=some cs.toArray:=by
 have hc:(Value.agg cs.toArray).cells=cs.toArray:=rfl;unfold Instr.fill;simp only[Nat.zero_mul,hc,List.size_toArray,U,X];rw[if_neg ap];unfold Instr.fill;have e:(cs.toArray.zipIdx.foldl (fun(b:Array Value) x=>b.setIfInBounds (0+x.2) x.1) base.toArray)=cs.toArray:=by rw[<-Array.foldl_toList,Array.toList_zipIdx,List.toList_toArray,Ze,QY 0 cs 0 base I];rw[List.take_zero,List.nil_append,List.drop_of_length_le I,List.append_nil]
 exact congrArg some e
theorem Li{rest:List Oper}{Q:Exit->Act->World->Prop}(hg:o.guard=none)(x:Operand)(ho:o.op= .buildSlice 48 1 #[(0,x)])(cs:List Value)(hx:a.eval x= .agg cs.toArray)(hl:cs.length=33)
  (h:wpList prog ops Q rest (a.put o.dst (.slice (some ⟨w.heap.size,0,none⟩) 1 1)) (w.alloc (.cells cs.toArray 119))):wpList prog ops Q (o::rest) a w:=by
 obtain⟨i,hi,hz,adT,hby⟩:=info_parts Vi;refine wpList_buildSlice hg 48 119 1 #[(0,x)] ho cs.toArray i _ underlying48 hi hz cK cK ?_ h;rw[adT];have e:((#[(0,x)]:Array (Nat×Operand)).map fun(i,x)=>(i,a.eval x)).toList=[(0,.agg cs.toArray)]:=by simp[hx]
 rw[e];have:=Hw 33 ((Array.range (1*33)).map ((Value.agg vG.toArray).cells[· % (Value.agg vG.toArray).cells.size]!)).toList cs hl ap;exact rP
theorem uD.CY{v:Value}{l:List RR}{r:RR}{css:List (List Value)}(h:Bh (wR w1) css l)(hr:wR w1 cs r)(hs:ug w1 w2)(ho:w2.ownsRow B 119 33 v' (l.length+1) (css.flatten++cs)):uD w2 B v' (l++[r]):=by
 exact ss
theorem DP(g:Nat)(m:List UInt8)(a n:Nat)(w:World)(h:Ei w g m a)(hl:m.length<=65535)(ha:a<=m.length)(hn:n<=65535):
  Calls prog 216 #[.pointer (some ⟨g,0,none⟩),.int .i64 n] w (Js (fun w' v l=>uD w' w.heap.size v l/\l.length<=n) g m w (uJ (uY m) n a)):=by
 obtain⟨aek,hO⟩:∃aek,aek=uJ (uY m) n a:=gp;rw[<-hO];have HO:Hid (xy [] (uJ (uY m) (n-0) a)=aek):=Y (by rw[DO,hO];rfl);clear hO;go_enter func216,ntmps216;go_wp2_with fail;go_loopw[5,7] (fun lv iv wr=>∃(k:Nat) (acc:List RR) (p:Nat),k<=n/\iv= .int .i64 k/\acc.length=k/\uD wr w.heap.size lv acc/\Ei wr g m p/\p<=m.length/\w.grownBy wr (some g)/\Hid (xy acc (uJ (uY m) (n-k) p)=aek)) (fun _ iv _=>n-(intOf iv).toNat)
 case atStart=>exact⟨0,[],a,Nat.zero_le _,J,J,uD.nil _ _,h,ha,World.grownBy.refl _ _,HO⟩
 clear HO h ha;obtain⟨k,acc,p,O,rfl,hal,oR,R,lp,afr,HO⟩:=hrel;have HAL:=Y hal;have ao2:acc.length<=65535:=I;clear hal;by_cases Hh:k<n
 case pos=>
  have tQ:(k:Int)<n:=I;have e1:n-k=(n-(k+1))+1:=I;rw[e1]at HO;have RC:=Y (QX g m p wr R hl lp);obtain⟨A,c,hv⟩:=oR.form;subst hv;go_wp2_with fail;refine RC.out.mono ?_;intro e w1 hr;rcases zM hr with⟨x,U,rfl,g1⟩|⟨r,p',v,U,rfl,⟨cs,rfl,hO'⟩,R1,g1,l1⟩
  ·
   obtain rfl:aek= .error x:=by rw[<-HO.out];exact BH U
   go_wp2_with fail;exact⟨J,J,vi afr g1⟩
  have o1:=oR.uG g1 R ax ax;have G1:=vi afr g1;have HO1:Hid (xy (acc++[r]) (uJ (uY m) (n-(k+1)) p')=aek):=Y (by rw[<-Fk U];exact HO.out);have hcl:=hO'.len;have hc1:=Y hO'.one;clear hr RC oR R lp afr HO g1 U;have kn:Below w1.heap.size w1 (w1.alloc (.cells cs.toArray 119)):=gj;obtain⟨css,ow,hE⟩:=o1;have ow2:=vQ ow kn;have Bn:=Z.new w1 119 cs;have hrg:(w1.alloc (.cells cs.toArray 119)).rangeAt w1.heap.size 0 cs:=by have:=Bn.range 0 33 I;exact pu
  have G2:=zk G1 (.cells cs.toArray 119);have hs1:=G1.size;have R2:=Z.G R1 kn (Z.lt R1);replace hE:=hE.mono (fun _ _ x=>x.ue (ug.G kn));replace hO':=hO'.ue (ug.G kn);go_wp2_with(first
   |(refine tO (.buildSlice 48 1 #[(0,.tmp 11)]) rfl ?_;go_must(refine Li rfl (.tmp 11) rfl cs rfl hcl ?_))
   |(at_builtin;go_must(refine AG _ rfl (.tmp 9) (.tmp 12) rfl w.heap.size _ acc.length css.flatten rfl ow2 az (some ⟨w1.heap.size,0,none⟩) 1 1 cs rfl (fun _=>⟨w1.heap.size,0,J,hrg⟩) I hc1.out I (acc.length+1) J ?_)))
  intro A' c' w2 o2 g2;have S2:=ug.own ow2 ax g2;have o3:uD w2 w.heap.size (.slice A' (acc.length+1) c') (acc++[r]):=uD.CY (v:=.slice none 0 0) hE hO' S2 o2;have R3:Ei w2 g m p':=vD R2 ow2 ax g2;have G3:w.grownBy w2 (some g):=tU G2 g2 (.inr (fun k O=>yI ow2 k O));clear R1 R2 G1 G2 ow ow2 hE hO' Bn hrg S2 g2 o2 kn hc1 hcl;go_wp2_with fail;go_roundw
  case rel=>exact⟨k+1,acc++[r],p',I,fU,by simp[HAL.out],o3,R3,l1,G3,HO1⟩
  case measure=>simp[intOf];omega
 obtain rfl:k=n:=I;have tQ:¬(k:Int)<k:=I;obtain rfl:aek= .ok (acc,p):=ld;clear Hh O HO;go_wp2_with fail;go_ret;exact⟨_,J,⟨oR,by have:=HAL.out;omega⟩,R,afr,lp⟩
theorem WB(p q:Addr)(w:World):
  CallsD prog 214 #[.pointer (some p),.pointer (some q)] .returning w fun e u' w'=>e= .returned (.tuple #[])/\u'= .returning/\w'=w:=by
 refine callsD_of_wpS func214 J fun c₀ cs hu=>?_
 apply wpS_seq;apply wpS_region;simp[wpOpsS,go_sem,recoverD,hu,ntmps214,Exit.thenS];refine Nh hu ?_;refine JZ [.pointer (some p),.pointer (some q),.nilIface,undef,undef,.nilIface,undef,undef,undef,undef,undef,undef,undef,undef,undef,undef,undef,undef,undef] aN ?_;exact rk
theorem y7:(prog.info? 142).map (·.size)=some 1:=by kernel_rfl
theorem wT:∀v∈uw,v.oneCell'=true:=zI _ J J J J
theorem WC(b0:Nat)(L:List Value)(hL:L.length=14)(v1:Value)(x:Int)(w:World)(h0:Z w b0 50 L)(U:Z w (b0+1) 142 [v1]):
  CallsD prog 214 #[.pointer (some ⟨b0,0,none⟩),.pointer (some ⟨b0+1,0,none⟩)] (.panicking (Lf x)) w fun e u' w'=>
   e= .returned (.tuple #[])/\u'= .panicking [{v:=.iface 324 (.agg #[.int .i64 x]),recovered:=true}]/\Z w' b0 50 uw/\Z w' (b0+1) 142 [.int .i64 x]/\Below b0 w w':=by
 have hTa:∀w:World,(Instr.typeAssert (.iface 324 (.agg #[.int .i64 x])) 20 324 true).run prog w= .ok (.tuple #[.agg #[.int .i64 x],.bool true]) w:=fun _=>by kernel_rfl
 have l0:=h0.lt;have l1:=U.lt;refine callsD_of_wpS func214 J fun c₀ cs hu=>?_
 unfold Lf at hu;apply wpS_seq;apply wpS_region;simp[wpOpsS,go_sem,recoverD,hu,ntmps214,Exit.thenS];refine KD (u':=.panicking [{v:=.iface 324 (.agg #[.int .i64 x]),recovered:=true}]) ?_;refine JZ [.pointer (some ⟨b0,0,none⟩),.pointer (some ⟨b0+1,0,none⟩),.iface 324 (.agg #[.int .i64 x]),undef,undef,.iface 324 (.agg #[.int .i64 x]),undef,undef,undef,undef,undef,undef,undef,undef,undef,undef,undef,undef,undef] aN ?_;clear hu;have kn:Below w.heap.size w (w.alloc (.cells #[.int .i64 x] 324)):=gj;have Bs:=Z.new w 324 [.int .i64 x];have C0:=h0.G kn l0;have C1:=U.G kn l1;have kb:Below b0 w (w.alloc (.cells #[.int .i64 x] 324)):=kn.mono I;obtain⟨w1,hw1⟩:∃w1,w1=w.alloc (.cells #[.int .i64 x] 324):=gp;have HW:=Y hw1;rw[<-hw1]at Bs C0 C1 kb;clear hw1 kn h0 U;go_wp2_with fail;rw[<-HW.out];clear HW;refine wp_region_held_drew (S:=fun W=>W.cell? ⟨w.heap.size,0,none⟩=some (.int .i64 x)) (by kernel_rfl) (Bs.K 0 J) (fun M=>?_);refine ag 0 (some 16) (v:=.agg uw.toArray) J J (by kernel_rfl) (fun W hW=>by kernel_rfl) M ?_;simp only[z]
 (refine ag 1 (some 17) J J (by kernel_rfl) (fun W hW=>rfl) M ?_;simp only[z])
 refine uZ 2 (some 18) 142 (.tmp 17) ⟨w.heap.size,0,none⟩ J J J J (by kernel_rfl) (by kernel_rfl) (by kernel_rfl) (fun _ _ _ h=>h) (by kernel_rfl) (fun W hW=>tV underlying142 J hW) M ?_;simp only[z];refine vz 3 none 50 (.tmp 0) (.tmp 16) (by kernel_rfl) J J J (by kernel_rfl) b0 0 J uw J C0.drew (by rw[hL];decide) ux wT ?_;intro w2 B2 g2 _;rw[Es (by rw[hL];rfl)]at B2;have D1:=(C1.drew).grown g2 ap;have S2:=(Bs.drew).grown g2 az;have k2:Below b0 w w2:=tN (w:=w1.drew) kb.drew g2 (by have:=kb.size;simp;omega) (Nat.le_refl _);refine⟨S2.K 0 J,?_⟩;simp only[z];refine um 4 (by kernel_rfl) ?_;refine xx 4 142 (.tmp 1) (.tmp 18) J J J (by kernel_rfl) (b0+1) 0 J (.int .i64 x) J D1 ap y7 J J ?_;intro w3 B3 g3 _;have E0:=B2.grown g3 ap;have S3:=S2.grown g3 az;have k3:Below b0 w w3:=tN k2 g3 (by have:=k2.size;omega) I;refine⟨S3.K 0 J,?_⟩;simp only[z];refine wpAnyH_done (by kernel_rfl) ?_ _;go_wp2_with fail;go_end0;first|exact⟨J,J,E0,B3,k3⟩|exact⟨J,E0,B3,k3⟩
theorem IE{P:Program}{Q:Exit->Act->World->Prop}{hb:Act->World->Prop}(i:Nat)(f:FuncId)(vs:Array Value)(hi:ops[i]?=some o)(hw:Region.wanted o (yielded ops a.tmps)=true)(he:(execOp a.eval o).run P w= .ok (.enter f vs) w)
  {R:Ending->World->Prop} (hc:Calls P f vs w R) (h:∀e w',R e w'->∃ch,e= .panicked ch/\Q (.panic ch) a w'):wpOp P ops Q i hb a w:=by
 unfold wpOp;simp only[hi,hw,if_true];left;unfold Oper.wp;rw[he];simp only[Oper.upon];refine hc.mono fun e w' hR=>?_
 obtain⟨ch,rfl,h'⟩:=h e w' hR;exact h'
def DQ(o:Except Int vo)(w:World)(e:Ending)(w':World):Prop:=
 match o with
 | .error x=>x≠0/\e= .returned (.tuple #[.agg uw.toArray,.int .i64 x])/\al w w'
 | .ok m=>∃cs,e= .returned (.tuple #[.agg cs.toArray,.int .i64 0])/\uA w' cs m/\al w w'
theorem Gw{tmps:Array Value}{R:Ending->World->Prop}{b0:Nat}{L:List Value}{x:Int}(X:tmps.getD 2 undef= .pointer (some ⟨b0,0,none⟩))(h3:tmps.getD 3 undef= .pointer (some ⟨b0+1,0,none⟩))(F:Z w b0 50 L)(hl:L.length=14)(he:Z w (b0+1) 142 [.int .i64 x])(hR:R (.returned (.tuple #[.agg L.toArray,.int .i64 x])) w):
  Leaves prog f179 tmps R [] .returning w:=by
 have e1:=run_loadVar_row (P:=prog) w b0 50 50 L.toArray (0,0) _ F underlying50 J (by rw[List.size_toArray,hl];exact ux);have c1:=he.K 0 J;have h2':tmps[2]?.getD undef= .pointer (some ⟨b0,0,none⟩):=fW;have h3':tmps[3]?.getD undef= .pointer (some ⟨b0+1,0,none⟩):=iT;have e2:(loadVar 142 ⟨b0+1,0,none⟩).run prog w= .ok (.int .i64 x) w:=by simp[loadVar,isAgg,run_underlying underlying142,c1,go_sem]
 refine⟨_,?_,hR⟩;simp[results,Tryz.results179,asAddr,h2',h3',e1,e2]
theorem Pg(m:List UInt8)(w:World)(hm:65535<m.length)(hl:m.length<=maxLen):Calls prog 179 #[.string (bs m)] w (DQ (.error 3) w):=by
 have hm':(65535:Int)<m.length:=I;clear hm;go_enter_defers func179,ntmps179;go_wp2_with fail;simp[bodyPostD,Leaves,results,Tryz.results179,go_sem];exact⟨ax,J,((Below.refl _ _).alloc (Nat.le_refl _) _).alloc ap _⟩
theorem ME(m:List UInt8)(w:World)(hm:m.length<12):Calls prog 179 #[.string (bs m)] w (DQ (.error 1) w):=by
 have hm':¬(65535:Int)<m.length:=I;have H:=Y (fun w=>Mu m w hm);unfold Hd.agg Hd.zero ye at H;clear hm;go_enter_defers func179,ntmps179;go_wp2_with fail;refine(H.out _).mono ?_;rintro _ w1 ⟨rfl,b1⟩;have b0:∀o1 o2,Below w.heap.size w ((w.alloc o1).alloc o2):=gN;have HB:=tL (b0 _ _) az b1;have BM':Z w1 w.heap.size 50 uw:=nB;have BE':Z w1 (w.heap.size+1) 142 [.int .i64 0]:=jF;have kk:∀o1 o2,Below w1.heap.size w1 ((w1.alloc o1).alloc o2):=gN;have hsz:w.heap.size+2<=w1.heap.size:=by have:=BE'.lt;omega
 clear b1 b0 H;go_wp2_with(refine tO (.store 50 (.tmp 2) (.tmp 20)) J (ab J w.heap.size 0 uw (BM'.G (kk _ _) BM'.lt) ax ux wT ?_));intro w2 B2 g2 _;have E2:=(BE'.G (kk _ _) BE'.lt).grown g2 ap;have b2:=tN (tL HB HB.size (kk _ _)) g2 az (Nat.le_refl _);clear BM' BE' kk g2 HB;go_wp2_with(refine tO (.store 142 (.tmp 3) (.tmp 21)) J (af J (w.heap.size+1) 0 (.int .i64 1) E2 ap y7 ?_));intro w3 E3 g3 _;have B3:=B2.grown g3 ap;have b3:=tN b2 g3 b2.size I;clear B2 E2 b2 g3;go_wp2_with fail;refine Gw J J B3 J E3 ?_;exact⟨ax,J,b3⟩
theorem Zf:(prog.info? 28).map (fun i=>(i.zero,i.size,i.bytes))=some (some (.agg qZ.toArray),3,40):=by kernel_rfl
theorem Fm(w:World)(cs:List Value)(hl:cs.length=3):(Instr.buildSlice 47 1 #[(0,.agg cs.toArray)]).run prog w= .ok (.slice (some ⟨w.heap.size,0,none⟩) 1 1) (w.alloc (.cells cs.toArray 28)):=by
 obtain⟨i,hi,hz,adT,hby⟩:=info_parts Zf;refine run_buildSlice w 47 28 1 _ cs.toArray i _ underlying47 hi hz cK cK ?_;rw[adT];have:=Hw 3 ((Array.range (1*3)).map ((Value.agg qZ.toArray).cells[· % (Value.agg qZ.toArray).cells.size]!)).toList cs hl ap;exact rP
theorem Ci(w:World)(E:TypeId)(B:Nat)(v:Value)(n:Nat)(xs:List Value)(adV:w.ownsRow B 28 3 v n xs)(hB:B<=w.heap.size)(b c:Nat)(news:List Value)(hr:w.rangeAt b 0 news)(hl:news.length=3)(U:∀u∈news,u.oneCell'=true)(F:n<=300000):
  ∃v' w',(Builtin.append_ #[47,47] E #[v,.slice (some ⟨b,0,none⟩) 1 c]).run prog w= .ok v' w'/\w'.ownsRow B 28 3 v' (n+1) (xs++news)/\w.grownBy w' v.ownBlock:=by
 obtain⟨i,hi,hz,adT,hby⟩:=info_parts Zf;obtain⟨v',w',hr,X,h3,_,h5⟩:=run_append_own_at (P:=prog) w B 47 E 28 i _ 3 40 underlying47 hi hz adT hby J I v n xs adV ⟨b,0,none⟩ 1 c news I (fun j u hu=>by
  have agp:(⟨b,0,none⟩:Addr).add j=⟨b,0+j,none⟩:=gM;rw[agp];exact hr j u hu) U aJ I hB
 exact sR
theorem BK{x:Value}{E:TypeId}(sl y:Operand)(ho:o.op= .call {callee:=.builtin .append,args:= #[sl,y],argTypes:= #[47,47]})(hty:o.type=E)(hs:a.eval sl=v)(hy:a.eval y=x)
  (hr:(Builtin.append_ #[47,47] E #[v,x]).run prog w= .ok v' w'):(execOp a.eval o).run prog w= .ok (.value v') w':=by
 exact pF
theorem Dm(x:Operand)(ho:o.op= .buildSlice 47 1 #[(0,x)])(hx:a.eval x=v)(hr:(Instr.buildSlice 47 1 #[(0,v)]).run prog w= .ok v' w'):(execOp a.eval o).run prog w= .ok (.value v') w':=by
 exact pY
theorem wS.CY{l:List Qn}{r:Qn}{css:List (List Value)}(h:Bh (JN w1) css l)(hr:JN w1 cs r)(hs:ug w1 w2)(ho:w2.ownsRow B 28 3 v' (l.length+1) (css.flatten++cs)):wS w2 B v' (l++[r]):=by
 exact ss
end Go.Proofs.YthnbcmlnpdabhaaGreat
