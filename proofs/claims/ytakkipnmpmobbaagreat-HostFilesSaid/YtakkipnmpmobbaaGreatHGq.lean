/-
  Layer 14 (message):the reader:take,num,check,name.
-/
import Derived.Test.YtakkipnmpmobbaaGreatHCq
import Derived.Great.BuildSlice
namespace Go.Proofs.YtakkipnmpmobbaaGreat
open _root_.Go.Proofs.Tryz
set_option maxHeartbeats 8000000
open Go.RowKit
set_option maxRecDepth 100000
set_option linter.unusedVariables false
set_option linter.unusedSimpArgs false
variable {m:List UInt8} {w w' B w2:World} {e:Ending} {a:Act} {ops:Array Oper} {o:Oper} {Hh:Nat} {v v':Value} {cs:List Value}
def Cf(w:World)(g:Nat)(m:List UInt8)(a:Nat):Prop:=N w g 277 [.string (bs m),.int .i64 (a:Int)]
def Jg(e:Int):List PanicEntry:=[{v:=.iface 274 (.agg #[.int .i64 e]),recovered:=false}]
def GR{α:Type}(V:World->Value->α->Prop)(g:Nat)(m:List UInt8)(w:World)(o:Except Int (α×Nat))(e:Ending)(w':World):Prop:=
 match o with
 | .error x=>e= .panicked (Jg x)/\w.grownBy w' (some g)
 | .ok (x,p)=>∃v,e= .returned v/\V w' v x/\Cf w' g m p/\w.grownBy w' (some g)/\p<=m.length
theorem LY(g:Nat)(m:List UInt8)(a n:Nat)(w:World)(h:Cf w g m a)(E:m.length<=65535)(hn:a+n<=m.length):
  Calls prog 185 #[.pointer (some ⟨g,0,none⟩),.int .i64 n] w (fun e w'=>e= .returned (.string (bs ((m.take (a+n)).drop a)))/\Cf w' g m (a+n)/\w.grownBy w' (some g)):=by
 have c0:=h.rD 0 I;have c1:=h.rD 1 I;have f1:=h.frozen 1;have hn':(a:Int)+n<=m.length:=Y;have hn2:(n:Int)<=(m.length:Int)-a:=Y;have e1:((a:Int)+n).toNat=a+n:=Y;have e2:((a:Int)+n-n).toNat=a:=Y;go_enter func185,ntmps185;go_wp2_with fail;go_quiet(fail);go_wp2_with fail;go_quiet(fail);go_wp2_with fail;go_ret;refine⟨?_,?_,yv (sd (yv (World.grownBy.refl _ _) _) _ _) _⟩
 ·simp
 ·
  have:=fun i j=>((h.drewN i).set 1 (.int .i64 ((a+n:Nat):Int))).drewN j
  simpa[Cf]using this _ _
theorem Qs(g:Nat)(m:List UInt8)(a n:Nat)(w:World)(h:Cf w g m a)(E:m.length<=65535)(ha:a<=m.length)(hn:m.length<a+n)(hn2:n<=100000):
  Calls prog 185 #[.pointer (some ⟨g,0,none⟩),.int .i64 n] w (fun e w'=>e= .panicked (Jg 1)/\w.grownBy w' (some g)):=by
 have c0:=h.rD 0 I;have c1:=h.rD 1 I;have hn':(m.length:Int)-a<n:=Y;go_enter func185,ntmps185;exact ou
theorem Vp(w:World):Calls prog 178 #[.int .i64 0] w (fun e w'=>e= .returned (.tuple #[])/\w=w'):=by
 go_enter func178,ntmps178;go_wp2_with fail;go_end0;exact⟨I,I⟩
theorem Jh(x:Int)(hx:x≠0)(w:World):Calls prog 178 #[.int .i64 x] w (fun e w'=>e= .panicked (Jg x)/\w=w'):=by
 have hx':(x !=0)=true:=iH;clear hx;go_enter func178,ntmps178;go_wp2_with fail;exact⟨I,I,I⟩
theorem acu(m:List UInt8)(k p:Nat)(h:p+k<=m.length):((m.take (p+k)).drop p).length=k:=by simp;omega
theorem xT(g:Nat)(m:List UInt8)(a k:Nat)(w:World)(h:Cf w g m a)(E:m.length<=65535)(ha:a<=m.length)(O:k=2\/k=4):
  Calls prog 182 #[.pointer (some ⟨g,0,none⟩),.int .i64 k] w (GR (fun _ v n=>v= .int .i64 ((n:Nat):Int)) g m w (uo m k a)):=by
 unfold uo;by_cases hs:m.length<a+k
 ·rw[if_pos hs];have T:=J (Qs g m a k w h E ha hs Y);go_enter func182,ntmps182;go_wp2_with fail;refine T.out.mono ?_;rintro _ B ⟨rfl,g1⟩;go_wp2_with fail;exact⟨I,I,g1⟩
 ·
  rw[if_neg hs];have T:=J (LY g m a k w h E Y);have hd:=acu m k a Y;have hhw:(hw (k:Int):Int)=k:=by rcases O with rfl|rfl<;>rfl
  have hTV:xy ((m.take (a+k)).drop a) false ((hw (k:Int):Nat):Int)=(m.take (a+k)).drop a:=by rw[hhw];unfold xy;rw[Int.toNat_natCast,if_neg (by rw[hd];simp),List.take_of_length_le Y]
  generalize(m.take (a+k)).drop a=d at*;go_enter func182,ntmps182;go_wp2_with fail;refine T.out.mono ?_;rintro _ B ⟨rfl,U,g1⟩;go_wp2_with fail;refine(Ba d B).mono ?_;rintro _ w2 ⟨rfl,e2,b2⟩;have ag3:=J (Hx B.heap.size d false (k:Int) w2 e2 aL);rw[hTV]at ag3;have R2:=U.G b2 U.lt;have hgn:g<B.heap.size:=U.lt;have g2:=rO g1 (r5 b2 none) (.inr (fun k O=>by cases O));have hsz:=g1.size;clear hTV e2 b2 T;generalize B.heap.size=gy at*;go_wp2_with fail;refine ag3.out.mono ?_;rintro _ w3 ⟨rfl,e3,g3⟩;have R3:=R2.grown g3 aB;have g3':=rO g2 g3 (.inr (fun k O=>by injection O with O;omega));go_wp2_with fail;go_ret;exact⟨_,I,I,R3,g3',Y⟩
theorem L8(g:Nat)(m:List UInt8)(a:Nat)(w:World)(h:Cf w g m a)(E:m.length<=65535)(ha:a<=m.length):
  Calls prog 181 #[.pointer (some ⟨g,0,none⟩)] w (GR y7 g m w (vO m a)):=by
 have ag6:=J (fun w=>Ve m a w Y);have c0:=h.rD 0 I;have c1:=h.rD 1 I;have hgl:=h.lt;unfold IK at ag6;rcases yW m a with⟨l,n,U,F,h3,h4,h5⟩|⟨x,U,F,h3⟩;all_goals
  rw[U]at ag6;rw[F];go_enter func181,ntmps181;go_wp2_with fail;refine wp_region_held_drew (S:=fun W=>Cf W g m a) (by kernel_rfl) h.drew (fun hS=>?_)
  (refine ah 0 (some 7) I I (by kernel_rfl) (fun W hW=>rfl) hS ?_;simp only[X])
  (refine ah 1 (some 8) I I (by kernel_rfl) (fun W hW=>rfl) hS ?_;simp only[X])
  (refine ah 2 (some 9) I I (by kernel_rfl) (fun W hW=>rfl) hS ?_;simp only[X])
  refine uW 3 (some 10) 9 (.tmp 9) ⟨g,0,none⟩ I I I I (by kernel_rfl) (by kernel_rfl) (by kernel_rfl) (fun _ _ _ h=>h) (by kernel_rfl) (fun W hW=>rQ underlying9 I (N.rD hW 0 I)) hS ?_;simp only[X]
  (refine ah 4 (some 11) I I (by kernel_rfl) (fun W hW=>rfl) hS ?_;simp only[X])
  (refine ah 5 (some 12) I I (by kernel_rfl) (fun W hW=>rfl) hS ?_;simp only[X])
  (refine ah 6 (some 13) I I (by kernel_rfl) (fun W hW=>rfl) hS ?_;simp only[X])
  refine uW 7 (some 14) 3 (.tmp 13) ⟨g,1,none⟩ I I I I (by kernel_rfl) (by kernel_rfl) (by kernel_rfl) (fun _ _ _ h=>h) (by kernel_rfl) (fun W hW=>rQ underlying3 I (N.rD hW 1 I)) hS ?_;simp only[X];refine su 8 (some 15) 184 #[.string (bs m),.int .i64 (a:Int)] (by kernel_rfl) I I (by kernel_rfl) bc (ag6.out _) ?_;rintro _ B ⟨v,rfl,hT,k1',_⟩;have k1:ao w B:=rC (w:=w.drew) (Below.refl _ _).drew (Nat.le_refl _) k1';have R1:Cf B g m a:=N.G h k1 hgl;refine⟨_,I,R1,?_⟩;clear hS;have hS:=R1;simp only[X]
  (refine ah 9 (some 6) I I (by kernel_rfl) (fun W hW=>rfl) hS ?_;simp only[X])
  (refine ah 10 (some 16) I I (by kernel_rfl) (fun W hW=>rfl) hS ?_;simp only[X])
  (refine ah 11 (some 17) I I (by kernel_rfl) (fun W hW=>rfl) hS ?_;simp only[X])
  (refine ah 12 (some 18) I I (by kernel_rfl) (fun W hW=>rfl) hS ?_;simp only[X])
  (refine ah 13 (some 3) I I (by kernel_rfl) (fun W hW=>rfl) hS ?_;simp only[X])
  (refine ah 14 (some 4) I I (by kernel_rfl) (fun W hW=>rfl) hS ?_;simp only[X])
  (refine ah 15 (some 5) I I (by kernel_rfl) (fun W hW=>rfl) hS ?_;simp only[X])
  refine wpAnyH_done (by kernel_rfl) ?_ _;clear hS c0 c1 ag6 k1'
 ·have N1:=y7.mk' hT h4 h5;simp only[goB,goE,goN]at*;go_wp2_with fail;refine(Vp _).mono ?_;rintro _ w2 ⟨rfl,rfl⟩;go_wp2_with(refine rF (.store 3 (.tmp 24) (.tmp 22)) I (af I g 1 (.int .i64 (n:Int)) R1 ar tG ?_));intro w3 B3 g3 _;have N3:=N1.rM (rZ.sD g3 R1 K);have gg:=rO (r5 k1 _) g3 (.inl I);go_wp2_with fail;go_ret;exact⟨_,I,N3,B3,gg,h3⟩
 ·simp only[goB,goE,goN]at*;go_wp2_with fail;refine(Jh x h3.ne _).mono ?_;rintro _ w2 ⟨rfl,rfl⟩;go_wp2_with fail;exact⟨I,I,r5 k1 _⟩
def QV(w:World)(v:Value)(q:Qn):Prop:=∃cs,v= .agg cs.toArray/\I8 w cs q
def RV(w:World)(v:Value)(r:RR):Prop:=∃cs,v= .agg cs.toArray/\wB w cs r
theorem FM{α:Type}{V:World->Value->α->Prop}{g:Nat}{o:Except Int (α×Nat)}{x:Int}(ho:o= .error x)(h:GR V g m w o e w'):e= .panicked (Jg x)/\w.grownBy w' (some g):=by subst ho;exact h
theorem EJ{α:Type}{V:World->Value->α->Prop}{g:Nat}{o:Except Int (α×Nat)}{x:α}{p:Nat}(ho:o= .ok (x,p))(h:GR V g m w o e w'):∃v,e= .returned v/\V w' v x/\Cf w' g m p/\w.grownBy w' (some g)/\p<=m.length:=by subst ho;exact h
def qZ:List Value:=[.slice none 0 0,.int .i64 0,.int .i64 0]
theorem KF(g:Nat)(m:List UInt8)(a:Nat)(w:World)(h:Cf w g m a)(E:m.length<=65535)(ha:a<=m.length):
  Calls prog 176 #[.pointer (some ⟨g,0,none⟩)] w (GR QV g m w (uC m a)):=by
 have hgl:g<w.heap.size:=N.lt h;have kb:Below w.heap.size w (w.alloc (.cells #[.slice none 0 0,.int .i64 0,.int .i64 0] 160)):=fZ;have R0:Cf (w.alloc (.cells #[.slice none 0 0,.int .i64 0,.int .i64 0] 160)) g m a:=N.G h kb hgl;have B0:=N.new w 160 qZ;have G0:=r5 kb (some g);have N1:=J (L8 g m a _ R0 E ha);unfold uC;cases U:vO m a with
 |error x=>simp only;go_enter func176,ntmps176;go_wp2_with fail;refine N1.out.mono ?_;intro e B hr;obtain⟨rfl,g1⟩:=FM U hr;go_wp2_with fail;exact⟨I,I,rO G0 g1 (.inl I)⟩
 |ok y=>
 obtain⟨nm,p1⟩:=y;simp only;cases F:uo m 2 p1 with
 |error x=>simp only;go_enter func176,ntmps176;go_wp2_with fail;refine N1.out.mono ?_;intro e B hr;obtain⟨v,rfl,nv,R1,g1,l1⟩:=EJ U hr;have N2:=J (xT g m p1 2 B R1 E l1 (.inl I));go_wp2_with fail;refine N2.out.mono ?_;intro e w2 hr;obtain⟨rfl,g2⟩:=FM F hr;go_wp2_with fail;exact⟨I,I,rO (rO G0 g1 (.inl I)) g2 (.inl I)⟩
 |ok y=>
 obtain⟨Q,p2⟩:=y;simp only;cases h3:uo m 2 p2 with
 |error x=>simp only;go_enter func176,ntmps176;go_wp2_with fail;refine N1.out.mono ?_;intro e B hr;obtain⟨v,rfl,nv,R1,g1,l1⟩:=EJ U hr;have N2:=J (xT g m p1 2 B R1 E l1 (.inl I));go_wp2_with fail;refine N2.out.mono ?_;intro e w2 hr;obtain⟨v2,rfl,rfl,R2,g2,l2⟩:=EJ F hr;have N3:=J (xT g m p2 2 w2 R2 E l2 (.inl I));go_wp2_with fail;refine N3.out.mono ?_;intro e w3 hr;obtain⟨rfl,g3⟩:=FM h3 hr;go_wp2_with fail;exact⟨I,I,rO (rO (rO G0 g1 (.inl I)) g2 (.inl I)) g3 (.inl I)⟩
 |ok y=>
 obtain⟨cl,p3⟩:=y;simp only;go_enter func176,ntmps176;go_wp2_with fail;refine N1.out.mono ?_;intro e B hr;obtain⟨v,rfl,nv,R1,g1,l1⟩:=EJ U hr;have N2:=J (xT g m p1 2 B R1 E l1 (.inl I));have B1:=B0.grown g1 aB;clear hr;go_wp2_with fail;refine N2.out.mono ?_;intro e w2 hr;obtain⟨v2,rfl,rfl,R2,g2,l2⟩:=EJ F hr;have N3:=J (xT g m p2 2 w2 R2 E l2 (.inl I));have B2:=B1.grown g2 aB;replace nv:=nv.rM (rZ.sD g2 R1 K);clear hr;go_wp2_with fail;refine N3.out.mono ?_;intro e w3 hr;obtain⟨v3,rfl,rfl,R3,g3,l3⟩:=EJ h3 hr;have B3:=B2.grown g3 aB;replace nv:=nv.rM (rZ.sD g3 R2 K);have gg:=rO (rO (rO G0 g1 (.inl I)) g2 (.inl I)) g3 (.inl I);obtain⟨A,c,hv,-⟩:=nv.form;subst hv;clear hr N1 N2 N3 B0 B1 B2 R0 R1 R2 g1 g2 g3 G0 kb h U F h3;go_wp2_with(refine rF (.store 160 (.tmp 2) (.tmp 13)) I (ab I w.heap.size 0 [.slice A nm.length c,.int .i64 (Q:Int),.int .i64 (cl:Int)] B3 (by simp[qZ]) xS aO ?_));intro w4 B4 g4 _;have R4:=N.grown R3 g4 aB;replace nv:=nv.rM (rZ.sD g4 B3 K);have gg4:w.grownBy w4 (some g):=rO gg g4 (.inr (fun k O=>by injection O with O;omega));go_wp2_with fail;refine tx I w.heap.size I B4 _ underlying160 I xS I ?_;exact⟨_,I,⟨_,I,.slice A nm.length c,I,nv⟩,R4,gg4,l3⟩
theorem xU{α:Type}{V:World->Value->α->Prop}{g:Nat}{o:Except Int (α×Nat)}(h:GR V g m w o e w'):
  (∃x,o= .error x/\e= .panicked (Jg x)/\w.grownBy w' (some g))\/(∃x p v,o= .ok (x,p)/\e= .returned v/\V w' v x/\Cf w' g m p/\w.grownBy w' (some g)/\p<=m.length):=by
 cases o with
 |error x=>exact .inl ⟨x,I,h⟩
 |ok y=>obtain⟨x,p⟩:=y;obtain⟨v,h⟩:=h;exact .inr ⟨x,p,v,I,h⟩
theorem tZ{a b c:World}{g:Nat}(h:a.grownBy b (some g))(k:b.grownBy c (some g)):a.grownBy c (some g):=rO h k (.inl I)
theorem WY{p n q:Nat}(h:uo m 2 p= .ok (n,q)):n<65536:=by
 unfold uo at h;split at h
 ·cases h
 ·injection h with h;injection h with U F;rw[<-U];exact yU _ 2 aB
theorem Qt(g:Nat)(m:List UInt8)(a:Nat)(w:World)(h:Cf w g m a)(E:m.length<=65535)(ha:a<=m.length):
  Calls prog 183 #[.pointer (some ⟨g,0,none⟩)] w (GR RV g m w (th m a)):=by
 have hgl:g<w.heap.size:=N.lt h;have kb:Below w.heap.size w (w.alloc (.cells vM.toArray 201)):=fZ;have R0:Cf (w.alloc (.cells vM.toArray 201)) g m a:=N.G h kb hgl;have B0:=N.new w 201 vM;have G0:=r5 kb (some g);obtain⟨w0,hw0⟩:∃w0,w.alloc (.cells vM.toArray 201)=w0:=gh;rw[hw0]at R0 B0 G0;have HW:Hid (w.alloc (.cells #[.slice none 0 0,.int .i64 0,.int .i64 0,.int .i64 0,.int .i64 0,.int .u8 0,.int .u8 0,.int .u8 0,.int .u8 0,.int .u8 0,.int .u8 0,.int .u8 0,.int .u8 0,.int .u8 0,.int .u8 0,.int .u8 0,.int .u8 0,.int .u8 0,.int .u8 0,.int .u8 0,.int .u8 0,.int .i64 0,.slice none 0 0,.slice none 0 0,.int .i64 0,.int .i64 0,.int .i64 0,.int .i64 0,.int .i64 0,.int .i64 0,.int .i64 0,.int .i64 0,.string ⟨#[]⟩] 201)=w0):=J (by rw[<-hw0,acs]);have N1:=J (L8 g m a _ R0 E ha);clear hw0 kb h;go_enter func183,ntmps183;go_wp2_with fail;rw[HW.out];refine N1.out.mono ?_;intro e B hr;rcases xU hr with⟨x,U,rfl,g1⟩|⟨nm,p1,v,U,rfl,nv,R1,g1,l1⟩
 ·go_wp2_with fail;exact⟨I,by rw[show th m a= .error x by simp only[th,U]];exact⟨I,tZ G0 g1⟩⟩
 have G1:=tZ G0 g1;have B1:=B0.grown g1 aB;have N2:=J (xT g m p1 2 B R1 E l1 (.inl I));clear hr N1 HW G0 B0 g1;go_wp2_with fail;refine N2.out.mono ?_;intro e w2 hr;rcases xU hr with⟨x,F,rfl,g2⟩|⟨Q,p2,v2,F,rfl,rfl,R2,g2,l2⟩
 ·go_wp2_with fail;exact⟨I,by rw[show th m a= .error x by simp only[th,U,F]];exact⟨I,tZ G1 g2⟩⟩
 have G2:=tZ G1 g2;have B2:=B1.grown g2 aB;replace nv:=nv.rM (rZ.sD g2 R1 K);have N3:=J (xT g m p2 2 w2 R2 E l2 (.inl I));clear hr N2 G1 B1 g2 R1;go_wp2_with fail;refine N3.out.mono ?_;intro e w3 hr;rcases xU hr with⟨x,h3,rfl,g3⟩|⟨cl,p3,v3,h3,rfl,rfl,R3,g3,l3⟩
 ·go_wp2_with fail;exact⟨I,by rw[show th m a= .error x by simp only[th,U,F,h3]];exact⟨I,tZ G2 g3⟩⟩
 have G3:=tZ G2 g3;have B3:=B2.grown g3 aB;replace nv:=nv.rM (rZ.sD g3 R2 K);have N4:=J (xT g m p3 4 w3 R3 E l3 (.inr I));clear hr N3 G2 B2 g3 R2;go_wp2_with fail;refine N4.out.mono ?_;intro e w4 hr;rcases xU hr with⟨x,h4,rfl,g4⟩|⟨ttl,p4,v4,h4,rfl,rfl,R4,g4,l4⟩
 ·go_wp2_with fail;exact⟨I,by rw[show th m a= .error x by simp only[th,U,F,h3,h4]];exact⟨I,tZ G3 g4⟩⟩
 have G4:=tZ G3 g4;have B4:=B3.grown g4 aB;replace nv:=nv.rM (rZ.sD g4 R3 K);have N5:=J (xT g m p4 2 w4 R4 E l4 (.inl I));clear hr N4 G3 B3 g4 R3;go_wp2_with fail;refine N5.out.mono ?_;intro e w5 hr;rcases xU hr with⟨x,h5,rfl,g5⟩|⟨sz,p5,v5,h5,rfl,rfl,R5,g5,l5⟩
 ·go_wp2_with fail;exact⟨I,by rw[show th m a= .error x by simp only[th,U,F,h3,h4,h5]];exact⟨I,tZ G4 g5⟩⟩
 have G5:=tZ G4 g5;have B5:=B4.grown g5 aB;replace nv:=nv.rM (rZ.sD g5 R4 K);have hsz:=WY h5;have c1:=N.rD R5 1 I;clear hr N5 G4 B4 g5 R4;by_cases hs:m.length<p5+sz
 case pos=>have T:=J (Qs g m p5 sz w5 R5 E l5 hs Y);go_wp2_with fail;refine T.out.mono ?_;rintro _ w6 ⟨rfl,g6⟩;go_wp2_with fail;exact⟨I,by rw[show th m a= .error 1 by simp only[th,U,F,h3,h4,h5,if_pos hs]];exact⟨I,tZ G5 g6⟩⟩
 have T:=J (LY g m p5 sz w5 R5 E Y);go_wp2_with fail;refine T.out.mono ?_;rintro _ w6 ⟨rfl,R6,g6⟩;have G6:=tZ G5 g6;have B6:=B5.grown g6 aB;replace nv:=nv.rM (rZ.sD g6 R5 K);have c0:=N.rD R6 0 I;have GT:=J (ZN m p5 sz Q cl w6 Y Y);clear T G5 B5 g6 R5 c1;cases hgr:wN m p5 sz Q cl with
 |error x=>rw[hgr]at GT;go_wp2_with fail;refine GT.out.mono ?_;rintro _ w7 ⟨hx,rfl,b7⟩;have G7:w.grownBy w7 (some g):=tO G6 b7;have hz7:=G7.size;clear GT B6 R6 c0 G6;go_wp2_with(refine rF (.store 201 (.tmp 9) (.tmp 38)) I (ab I w7.heap.size 0 vM (N.uE _ _ vM _ I) a7 bG Ih ?_));intro w8 B8 g8 _;have G8:w.grownBy w8 (some g):=iY;clear B8 g8;go_wp2_with fail;refine(Jh x hx _).mono ?_;rintro _ w9 ⟨rfl,rfl⟩;go_wp2_with fail;exact⟨I,by rw[show th m a= .error x by simp only[th,U,F,h3,h4,h5,if_neg hs,hgr]];exact⟨I,G8⟩⟩
 |ok r0=>
  rw[hgr]at GT;go_wp2_with fail;refine GT.out.mono ?_;rintro _ w7 ⟨cs,rfl,hO,b7⟩;have G7:w.grownBy w7 (some g):=tO G6 b7;have hz7:=G7.size;have hcl:=hO.len;have hc1:=J hO.one;have kn:Below w7.heap.size w7 (w7.alloc (.cells vM.toArray 201)):=fZ;have R7:=(N.G (N.G R6 b7 (N.lt R6)) kn (by have:=N.lt R6;have:=b7.size;omega));have T7:=(B6.G b7 B6.lt).G kn (by have:=B6.lt;have:=b7.size;omega);replace nv:=(nv.rM (rZ.G b7)).rM (rZ.G kn);replace hO:=hO.rM (rZ.G kn);have Bn:=N.new w7 201 vM;have hT2:=B6.lt;have hb7:=b7.size;clear GT B6 R6 c0 G6 b7 kn;go_wp2_with(refine rF (.store 201 (.tmp 9) (.tmp 38)) I (ab I w7.heap.size 0 cs Bn a7 (by rw[hcl];exact ta) hc1.out ?_));intro w8 B8 g8 _;rw[List.drop_of_length_le a7,List.append_nil]at B8;have R8:=N.grown R7 g8 aB;have T8:=T7.grown g8 aB;have G8:w.grownBy w8 (some g):=iY;replace nv:=nv.rM (rZ.sD g8 Bn K);replace hO:=hO.rM (rZ.sD g8 Bn K);have hg9:g<w7.heap.size:=Y;have hw9:w.heap.size<w7.heap.size:=Y;clear R7 T7 G7 g8 Bn hc1 hT2 hb7 hz7;generalize w7.heap.size=g9 at*;go_wp2_with fail;refine(Vp _).mono ?_;rintro _ w9 ⟨rfl,rfl⟩;obtain⟨vn,vt,vm,hcs,hwf,n1,n2,n3,aiS⟩:=hO;have HCS:=J hcs;clear hcs n1;obtain⟨A,c,hv,-⟩:=nv.form;subst hv;go_wp2_with(refine rF (.store 24 (.tmp 46) (.tmp 42)) I (af I g9 0 (.slice A nm.length c) B8 Y wS ?_));intro w9 B9 g9_ _;obtain⟨M9,hM9⟩:∃M,M=cs.set 0 (.slice A nm.length c):=gh;rw[<-hM9]at B9;have lM9:M9.length=33:=by rw[hM9,List.length_set];exact hcl
  have HM9:=J hM9;clear hM9;have R9:=N.grown R8 g9_ aB;have T9:=T8.grown g9_ aB;have G9:w.grownBy w9 (some g):=rO G8 g9_ (.inr (fun k O=>by injection O with O;omega));replace nv:=nv.rM (rZ.sD g9_ B8 K);replace n2:=n2.rM (rZ.sD g9_ B8 K);replace n3:=n3.rM (rZ.sD g9_ B8 K);clear R8 T8 G8 g9_ B8;go_wp2_with(refine rF (.store 3 (.tmp 47) (.tmp 43)) I (af I g9 1 (.int .i64 (Q:Int)) B9 Y tG ?_));intro wx Bx gx _;obtain⟨Mx,hMx⟩:∃M,M=M9.set 1 (.int .i64 (Q:Int)):=gh;rw[<-hMx]at Bx;have lMx:Mx.length=33:=by rw[hMx,List.length_set];exact lM9
  have HMx:=J hMx;clear hMx;have Rx:=N.grown R9 gx aB;have Tx:=T9.grown gx aB;have Gx:w.grownBy wx (some g):=rO G9 gx (.inr (fun k O=>by injection O with O;omega));replace nv:=nv.rM (rZ.sD gx B9 K);replace n2:=n2.rM (rZ.sD gx B9 K);replace n3:=n3.rM (rZ.sD gx B9 K);clear R9 T9 G9 gx B9;go_wp2_with(refine rF (.store 3 (.tmp 48) (.tmp 44)) I (af I g9 2 (.int .i64 (cl:Int)) Bx Y tG ?_));intro wy By gy _;obtain⟨My,hMy⟩:∃M,M=Mx.set 2 (.int .i64 (cl:Int)):=gh;rw[<-hMy]at By;have lMy:My.length=33:=by rw[hMy,List.length_set];exact lMx
  have HMy:=J hMy;clear hMy;have Ry:=N.grown Rx gy aB;have Ty:=Tx.grown gy aB;have Gy:w.grownBy wy (some g):=rO Gx gy (.inr (fun k O=>by injection O with O;omega));replace nv:=nv.rM (rZ.sD gy Bx K);replace n2:=n2.rM (rZ.sD gy Bx K);replace n3:=n3.rM (rZ.sD gy Bx K);clear Rx Tx Gx gy Bx;go_wp2_with(refine rF (.store 3 (.tmp 49) (.tmp 45)) I (af I g9 3 (.int .i64 (ttl:Int)) By Y tG ?_));intro wz Bz gz _;obtain⟨Mz,hMz⟩:∃M,M=My.set 3 (.int .i64 (ttl:Int)):=gh;rw[<-hMz]at Bz;have lMz:Mz.length=33:=by rw[hMz,List.length_set];exact lMy
  have HMz:=J hMz;clear hMz;have Rz:=N.grown Ry gz aB;have Tz:=Ty.grown gz aB;have Gz:w.grownBy wz (some g):=rO Gy gz (.inr (fun k O=>by injection O with O;omega));replace nv:=nv.rM (rZ.sD gz By K);replace n2:=n2.rM (rZ.sD gz By K);replace n3:=n3.rM (rZ.sD gz By K);clear Ry Ty Gy gz By;have hMz:Mz=uz (.slice A nm.length c) vt vm {r0 with name:=nm,Q:=Q,cl:=cl,ttl:=ttl}:=by rw[HMz.out,HMy.out,HMx.out,HM9.out,HCS.out];rfl
  have OW:wB wz Mz {r0 with name:=nm,Q:=Q,cl:=cl,ttl:=ttl}:=⟨_,vt,vm,hMz,⟨hwf.1,hwf.2⟩,nv,n2,n3,aiS⟩;have RE:Hid (th m a= .ok ({r0 with name:=nm,Q:=Q,cl:=cl,ttl:=ttl},p5+sz)):=J (by simp only[th,U,F,h3,h4,h5,if_neg hs,hgr]);generalize({r0 with name:=nm,Q:=Q,cl:=cl,ttl:=ttl}:RR)=r9 at*;have o1:=J OW.one;clear HMz HMy HMx HM9 HCS hMz nv n2 n3 hwf aiS U F h3 h4 h5 hgr;go_wp2_with(first
   |(refine rF (.load 201 (.tmp 9)) rfl ?_;go_must(refine rG rfl _ _ rfl g9 0 rfl Bz 33 Y _ underlying201 rfl ta Mz (uH Y) ?_))
   |(refine rF (.store 201 (.tmp 2) (.tmp 50)) rfl (ab rfl w.heap.size 0 Mz Tz a7 bI o1.out ?_)))
  intro wq Bq gq _;rw[List.drop_of_length_le a7,List.append_nil]at Bq;have Rq:=N.grown Rz gq aB;have Gq:w.grownBy wq (some g):=rO Gz gq (.inr (fun k O=>by injection O with O;omega));have Oq:=OW.rM (rZ.sD gq Tz K);clear Rz Gz Tz Bz gq OW;go_wp2_with fail;refine tx I w.heap.size I Bq _ underlying201 I bI I ?_;rw[RE.out];exact⟨_,I,⟨Mz,I,Oq⟩,Rq,Gq,Y⟩
theorem Qu(place:Nat):∀(cs:List Value) (k:Nat) (base:List Value),k+cs.length<=base.length->
  (cs.zipIdx k).foldl (fun(b:List Value) x=>b.set (0+x.2) x.1) base=base.take k++cs++base.drop (k+cs.length)
 |[],k,base,h=>by simp
 |c::cs,k,base,h=>by
  have O:k<base.length:=by simp at h;omega
  rw[List.zipIdx_cons,List.foldl_cons,Nat.zero_add,Qu place cs (k+1) (base.set k c) (by simp at h⊢;omega)];have e1:(base.set k c).take (k+1)=base.take k++[c]:=by rw[List.take_succ_eq_append_getElem aZ];simp[List.take_set];exact List.set_eq_of_length_le aB
  have e2:(base.set k c).drop (k+1+cs.length)=base.drop (k+1+cs.length):=List.drop_set_of_lt Y;rw[e1,e2];simp[Nat.add_assoc,Nat.add_comm 1]
theorem ZO(cs:List (Value×Nat)):∀(base:List Value),(cs.foldl (fun(b:Array Value) x=>b.setIfInBounds (0+x.2) x.1) base.toArray)=(cs.foldl (fun(b:List Value) x=>b.set (0+x.2) x.1) base).toArray:=by
 induction cs with
 |nil=>intro base;rfl
 |cons c cs ih=>intro base;rw[List.foldl_cons,List.foldl_cons,List.setIfInBounds_toArray,ih]
theorem EK(n:Nat)(base:List Value)(cs:List Value)(U:cs.length=n)(F:base.length=n):Instr.fill (fun i=>some (i*n,n)) base.toArray [(0,.agg cs.toArray)]=some cs.toArray:=by
 have hc:(Value.agg cs.toArray).cells=cs.toArray:=rfl;unfold Instr.fill;simp only[Nat.zero_mul,hc,List.size_toArray,U,F];rw[if_neg ar];unfold Instr.fill;have e:(cs.toArray.zipIdx.foldl (fun(b:Array Value) x=>b.setIfInBounds (0+x.2) x.1) base.toArray)=cs.toArray:=by rw[<-Array.foldl_toList,Array.toList_zipIdx,List.toList_toArray,ZO,Qu 0 cs 0 base Y];rw[List.take_zero,List.nil_append,List.drop_of_length_le Y,List.append_nil]
 exact congrArg some e
theorem TZ{rest:List Oper}{hb:Exit->Act->World->Prop}(hg:o.guard=none)(x:Operand)(ho:o.op= .buildSlice 167 1 #[(0,x)])(cs:List Value)(hx:a.eval x= .agg cs.toArray)(E:cs.length=33)
  (h:wpList prog ops hb rest (a.put o.dst (.slice (some ⟨w.heap.size,0,none⟩) 1 1)) (w.alloc (.cells cs.toArray 201))):wpList prog ops hb (o::rest) a w:=by
 obtain⟨i,hi,hz,adR,hby⟩:=info_parts Vn;refine wpList_buildSlice hg 167 201 1 #[(0,x)] ho cs.toArray i _ underlying167 hi hz bJ bJ ?_ h;rw[adR];have e:((#[(0,x)]:Array (Nat×Operand)).map fun(i,x)=>(i,a.eval x)).toList=[(0,.agg cs.toArray)]:=aI;rw[e];have:=EK 33 ((Array.range (1*33)).map ((Value.agg vM.toArray).cells[· % (Value.agg vM.toArray).cells.size]!)).toList cs E ar;exact pz
theorem sM.Ce{v:Value}{l:List RR}{r:RR}{css:List (List Value)}(h:wO (wB B) css l)(hr:wB B cs r)(hs:rZ B w2)(ho:w2.ownsRow Hh 201 33 v' (l.length+1) (css.flatten++cs)):sM w2 Hh v' (l++[r]):=by
 exact p8
theorem Bh(g:Nat)(m:List UInt8)(a n:Nat)(w:World)(h:Cf w g m a)(E:m.length<=65535)(ha:a<=m.length)(hn:n<=65535):
  Calls prog 177 #[.pointer (some ⟨g,0,none⟩),.int .i64 n] w (GR (fun w' v l=>sM w' w.heap.size v l/\l.length<=n) g m w (sF (th m) n a)):=by
 have hgl:g<w.heap.size:=N.lt h;obtain⟨agB,hO⟩:∃agB,agB=sF (th m) n a:=gh;rw[<-hO];have HO:Hid (vP [] (sF (th m) (n-0) a)=agB):=J (by rw[I7,hO];rfl);clear hO;go_enter func177,ntmps177;go_wp2_with fail;go_loopw[5,7] (fun lv iv wr=>∃(k:Nat) (acc:List RR) (p:Nat),k<=n/\iv= .int .i64 k/\acc.length=k/\sM wr w.heap.size lv acc/\Cf wr g m p/\p<=m.length/\w.grownBy wr (some g)/\Hid (vP acc (sF (th m) (n-k) p)=agB)) (fun _ iv _=>n-(intOf iv).toNat)
 case atStart=>exact⟨0,[],a,Nat.zero_le _,I,I,sM.nil _ _,h,ha,World.grownBy.refl _ _,HO⟩
 clear HO h ha;obtain⟨k,acc,p,O,rfl,hal,oR,R,lp,ag6,HO⟩:=hrel;have HAL:=J hal;have aBZ:acc.length<=65535:=Y;clear hal;have hsz:=ag6.size;by_cases aA:k<n
 case pos=>
  have h1:(k:Int)<n:=Y;have e1:n-k=(n-(k+1))+1:=Y;rw[e1]at HO;have RC:=J (Qt g m p wr R E lp);obtain⟨A,c,hv⟩:=oR.form;subst hv;go_wp2_with fail;refine RC.out.mono ?_;intro e B hr;rcases xU hr with⟨x,U,rfl,g1⟩|⟨r,p',v,U,rfl,⟨cs,rfl,hO'⟩,R1,g1,l1⟩
  ·
   obtain rfl:agB= .error x:=by rw[<-HO.out];exact LF U
   go_wp2_with fail;exact⟨I,I,tZ ag6 g1⟩
  have o1:=oR.sD g1 R K K;have G1:=tZ ag6 g1;have HO1:Hid (vP (acc++[r]) (sF (th m) (n-(k+1)) p')=agB):=J (by rw[<-Ly U];exact HO.out);have hcl:=hO'.len;have hc1:=J hO'.one;clear hr RC oR R lp ag6 HO g1 U hsz;have kn:Below B.heap.size B (B.alloc (.cells cs.toArray 201)):=fZ;obtain⟨css,ow,hE⟩:=o1;have ow2:=sT ow kn;have Bn:=N.new B 201 cs;have hrg:(B.alloc (.cells cs.toArray 201)).rangeAt B.heap.size 0 cs:=by have:=Bn.range 0 33 Y;rwa[List.drop_zero,List.take_of_length_le Y]at this
  have G2:=zB G1 (.cells cs.toArray 201);have hs1:=G1.size;have R2:=N.G R1 kn (N.lt R1);replace hE:=hE.mono (fun _ _ x=>x.rM (rZ.G kn));replace hO':=hO'.rM (rZ.G kn);go_wp2_with(first
   |(refine rF (.buildSlice 167 1 #[(0,.tmp 11)]) rfl ?_;go_must(refine TZ rfl (.tmp 11) rfl cs rfl hcl ?_))
   |(at_builtin;go_must(refine Qf _ rfl (.tmp 9) (.tmp 12) rfl w.heap.size _ acc.length css.flatten rfl ow2 aB (some ⟨B.heap.size,0,none⟩) 1 1 cs rfl (fun _=>⟨B.heap.size,0,I,hrg⟩) Y hc1.out Y (acc.length+1) I ?_)))
  intro A' c' w2 o2 g2;have S2:=rZ.own ow2 K g2;have o3:sM w2 w.heap.size (.slice A' (acc.length+1) c') (acc++[r]):=sM.Ce (v:=.slice none 0 0) hE hO' S2 o2;have R3:Cf w2 g m p':=ui R2 ow2 K g2;have G3:w.grownBy w2 (some g):=rO G2 g2 (.inr (fun k O=>yw ow2 k O));clear R1 R2 G1 G2 ow ow2 hE hO' Bn hrg S2 g2 o2 kn hc1 hcl;go_wp2_with fail;go_roundw
  case rel=>exact⟨k+1,acc++[r],p',Y,fQ,by simp[HAL.out],o3,R3,l1,G3,HO1⟩
  case measure=>simp[intOf];omega
 obtain rfl:k=n:=Y;have h1:¬(k:Int)<k:=Y;obtain rfl:agB= .ok (acc,p):=kc;clear aA O HO;go_wp2_with fail;go_ret;exact⟨_,I,⟨oR,by have:=HAL.out;omega⟩,R,ag6,lp⟩
theorem WZ(p q:Addr)(w:World):
  CallsD prog 175 #[.pointer (some p),.pointer (some q)] .returning w fun e u' w'=>e= .returned (.tuple #[])/\u'= .returning/\w'=w:=by
 refine callsD_of_wpS func175 I fun c₀ cs hu=>?_
 apply wpS_seq;apply wpS_region;simp[wpOpsS,go_sem,recoverD,hu,ntmps175,Exit.thenS];refine Le hu ?_;refine Ia [.pointer (some p),.pointer (some q),.nilIface,undef,undef,.nilIface,undef,undef,undef,undef,undef,undef,undef,undef,undef,undef,undef,undef,undef] aN ?_;exact oZ
theorem Ji:(prog.info? 37).map (·.size)=some 1:=by kernel_rfl
theorem Cv:∀v∈sV,v.oneCell'=true:=Cs _ I I I I
theorem Xa(b0:Nat)(L:List Value)(hL:L.length=14)(v1:Value)(x:Int)(w:World)(h0:N w b0 169 L)(U:N w (b0+1) 37 [v1]):
  CallsD prog 175 #[.pointer (some ⟨b0,0,none⟩),.pointer (some ⟨b0+1,0,none⟩)] (.panicking (Jg x)) w fun e u' w'=>
   e= .returned (.tuple #[])/\u'= .panicking [{v:=.iface 274 (.agg #[.int .i64 x]),recovered:=true}]/\N w' b0 169 sV/\N w' (b0+1) 37 [.int .i64 x]/\Below b0 w w':=by
 have hTa:∀w:World,(Instr.typeAssert (.iface 274 (.agg #[.int .i64 x])) 20 274 true).run prog w= .ok (.tuple #[.agg #[.int .i64 x],.bool true]) w:=fun _=>by kernel_rfl
 have l0:=h0.lt;have l1:=U.lt;refine callsD_of_wpS func175 I fun c₀ cs hu=>?_
 unfold Jg at hu;apply wpS_seq;apply wpS_region;simp[wpOpsS,go_sem,recoverD,hu,ntmps175,Exit.thenS];refine IJ (u':=.panicking [{v:=.iface 274 (.agg #[.int .i64 x]),recovered:=true}]) ?_;refine Ia [.pointer (some ⟨b0,0,none⟩),.pointer (some ⟨b0+1,0,none⟩),.iface 274 (.agg #[.int .i64 x]),undef,undef,.iface 274 (.agg #[.int .i64 x]),undef,undef,undef,undef,undef,undef,undef,undef,undef,undef,undef,undef,undef] aN ?_;clear hu;have kn:Below w.heap.size w (w.alloc (.cells #[.int .i64 x] 274)):=fZ;have Bs:=N.new w 274 [.int .i64 x];have C0:=h0.G kn l0;have C1:=U.G kn l1;have kb:Below b0 w (w.alloc (.cells #[.int .i64 x] 274)):=kn.mono Y;obtain⟨B,hw1⟩:∃B,B=w.alloc (.cells #[.int .i64 x] 274):=gh;have HW:=J hw1;rw[<-hw1]at Bs C0 C1 kb;clear hw1 kn h0 U;go_wp2_with fail;rw[<-HW.out];clear HW;refine wp_region_held_drew (S:=fun W=>W.cell? ⟨w.heap.size,0,none⟩=some (.int .i64 x)) (by kernel_rfl) (Bs.rD 0 I) (fun hS=>?_);refine ah 0 (some 16) (v:=.agg sV.toArray) I I (by kernel_rfl) (fun W hW=>by kernel_rfl) hS ?_;simp only[X]
 (refine ah 1 (some 17) I I (by kernel_rfl) (fun W hW=>rfl) hS ?_;simp only[X])
 refine uW 2 (some 18) 37 (.tmp 17) ⟨w.heap.size,0,none⟩ I I I I (by kernel_rfl) (by kernel_rfl) (by kernel_rfl) (fun _ _ _ h=>h) (by kernel_rfl) (fun W hW=>rQ underlying37 I hW) hS ?_;simp only[X];refine wL 3 none 169 (.tmp 0) (.tmp 16) (by kernel_rfl) I I I (by kernel_rfl) b0 0 I sV I C0.drew (by rw[hL];decide) tn Cv ?_;intro w2 B2 g2 _;rw[Cp (by rw[hL];rfl)]at B2;have D1:=(C1.drew).grown g2 ar;have S2:=(Bs.drew).grown g2 aB;have k2:Below b0 w w2:=rE (w:=B.drew) kb.drew g2 (by have:=kb.size;simp;omega) (Nat.le_refl _);refine⟨S2.rD 0 I,?_⟩;simp only[X];refine rV 4 (by kernel_rfl) ?_;refine ur 4 37 (.tmp 1) (.tmp 18) I I I (by kernel_rfl) (b0+1) 0 I (.int .i64 x) I D1 ar Ji I I ?_;intro w3 B3 g3 _;have E0:=B2.grown g3 ar;have S3:=S2.grown g3 aB;have k3:Below b0 w w3:=rE k2 g3 (by have:=k2.size;omega) Y;refine⟨S3.rD 0 I,?_⟩;simp only[X];refine wpAnyH_done (by kernel_rfl) ?_ _;go_wp2_with fail;go_end0;first|exact⟨I,I,E0,B3,k3⟩|exact⟨I,E0,B3,k3⟩
theorem FP{P:Program}{hb:Exit->Act->World->Prop}{al:Act->World->Prop}(i:Nat)(f:FuncId)(vs:Array Value)(hi:ops[i]?=some o)(hw:Region.wanted o (yielded ops a.tmps)=true)(he:(execOp a.eval o).run P w= .ok (.enter f vs) w)
  {R:Ending->World->Prop} (hc:Calls P f vs w R) (h:∀e w',R e w'->∃ch,e= .panicked ch/\hb (.panic ch) a w'):wpOp P ops hb i al a w:=by
 unfold wpOp;simp only[hi,hw,if_true];left;unfold Oper.wp;rw[he];simp only[Oper.upon];refine hc.mono fun e w' hR=>?_
 obtain⟨ch,rfl,h'⟩:=h e w' hR;exact h'
def Jj(o:Except Int tq)(w:World)(e:Ending)(w':World):Prop:=
 match o with
 | .error x=>x≠0/\e= .returned (.tuple #[.agg sV.toArray,.int .i64 x])/\ao w w'
 | .ok m=>∃cs,e= .returned (.tuple #[.agg cs.toArray,.int .i64 0])/\sA w' cs m/\ao w w'
theorem DW{tmps:Array Value}{R:Ending->World->Prop}{b0:Nat}{L:List Value}{x:Int}(F:tmps.getD 2 undef= .pointer (some ⟨b0,0,none⟩))(h3:tmps.getD 3 undef= .pointer (some ⟨b0+1,0,none⟩))(Z:N w b0 169 L)(E:L.length=14)(he:N w (b0+1) 37 [.int .i64 x])(hR:R (.returned (.tuple #[.agg L.toArray,.int .i64 x])) w):
  Leaves prog f166 tmps R [] .returning w:=by
 have e1:=run_loadVar_row (P:=prog) w b0 169 169 L.toArray (0,0) _ Z underlying169 I (by rw[List.size_toArray,E];exact tn);have c1:=he.rD 0 I;have h2':tmps[2]?.getD undef= .pointer (some ⟨b0,0,none⟩):=fT;have h3':tmps[3]?.getD undef= .pointer (some ⟨b0+1,0,none⟩):=lK;have e2:(loadVar 37 ⟨b0+1,0,none⟩).run prog w= .ok (.int .i64 x) w:=by simp[loadVar,isAgg,run_underlying underlying37,c1,go_sem]
 refine⟨_,?_,hR⟩;simp[results,Tryz.results166,asAddr,h2',h3',e1,e2]
theorem NZ(m:List UInt8)(w:World)(hm:65535<m.length)(E:m.length<=maxLen):Calls prog 166 #[.string (bs m)] w (Jj (.error 3) w):=by
 have hm':(65535:Int)<m.length:=Y;have hmf:∀(fn:Fn) (first cap:Array Value) (w:World),(Instr.makeFunc fn first cap).run prog w= .ok (.func fn first cap) w:=jN;clear hm;go_enter_defers func166,ntmps166;go_wp2_with fail;simp[bodyPostD,Leaves,results,Tryz.results166,go_sem];exact⟨K,I,((Below.refl _ _).alloc (Nat.le_refl _) _).alloc ar _⟩
theorem KG(m:List UInt8)(w:World)(hm:m.length<12):Calls prog 166 #[.string (bs m)] w (Jj (.error 1) w):=by
 have hm':¬(65535:Int)<m.length:=Y;have hmf:∀(fn:Fn) (first cap:Array Value) (w:World),(Instr.makeFunc fn first cap).run prog w= .ok (.func fn first cap) w:=jN;have H:=J (fun w=>Kw m w hm);unfold Hd.agg Hd.zero zO at H;clear hm;go_enter_defers func166,ntmps166;go_wp2_with fail;refine(H.out _).mono ?_;rintro _ B ⟨rfl,b1⟩;have b0:∀o1 o2,Below w.heap.size w ((w.alloc o1).alloc o2):=gK;have HB:=rC (b0 _ _) aB b1;have BM':N B w.heap.size 169 sV:=lH;have BE':N B (w.heap.size+1) 37 [.int .i64 0]:=jj;have kk:∀o1 o2,Below B.heap.size B ((B.alloc o1).alloc o2):=gK;have hsz:w.heap.size+2<=B.heap.size:=by have:=BE'.lt;omega
 clear b1 b0 H;go_wp2_with(refine rF (.store 169 (.tmp 2) (.tmp 20)) I (ab I w.heap.size 0 sV (BM'.G (kk _ _) BM'.lt) K tn Cv ?_));intro w2 B2 g2 _;have E2:=(BE'.G (kk _ _) BE'.lt).grown g2 ar;have b2:=rE (rC HB HB.size (kk _ _)) g2 aB (Nat.le_refl _);clear BM' BE' kk g2 HB;go_wp2_with(refine rF (.store 37 (.tmp 3) (.tmp 21)) I (af I (w.heap.size+1) 0 (.int .i64 1) E2 ar Ji ?_));intro w3 E3 g3 _;have B3:=B2.grown g3 ar;have b3:=rE b2 g3 b2.size Y;clear B2 E2 b2 g3;go_wp2_with fail;refine DW I I B3 I E3 ?_;exact⟨K,I,b3⟩
theorem FY:(prog.info? 160).map (fun i=>(i.zero,i.size,i.bytes))=some (some (.agg qZ.toArray),3,40):=by kernel_rfl
theorem De(w:World)(cs:List Value)(E:cs.length=3):(Instr.buildSlice 133 1 #[(0,.agg cs.toArray)]).run prog w= .ok (.slice (some ⟨w.heap.size,0,none⟩) 1 1) (w.alloc (.cells cs.toArray 160)):=by
 obtain⟨i,hi,hz,adR,hby⟩:=info_parts FY;refine run_buildSlice w 133 160 1 _ cs.toArray i _ underlying133 hi hz bJ bJ ?_;rw[adR];have:=EK 3 ((Array.range (1*3)).map ((Value.agg qZ.toArray).cells[· % (Value.agg qZ.toArray).cells.size]!)).toList cs E ar;exact pz
theorem AA(w:World)(Q:TypeId)(Hh:Nat)(v:Value)(n:Nat)(xs:List Value)(ad1:w.ownsRow Hh 160 3 v n xs)(hB:Hh<=w.heap.size)(b c:Nat)(news:List Value)(hr:w.rangeAt b 0 news)(E:news.length=3)(U:∀u∈news,u.oneCell'=true)(Z:n<=300000):
  ∃v' w',(Builtin.append_ #[133,133] Q #[v,.slice (some ⟨b,0,none⟩) 1 c]).run prog w= .ok v' w'/\w'.ownsRow Hh 160 3 v' (n+1) (xs++news)/\w.grownBy w' v.ownBlock:=by
 obtain⟨i,hi,hz,adR,hby⟩:=info_parts FY;obtain⟨v',w',hr,F,h3,_,h5⟩:=run_append_own_at (P:=prog) w Hh 133 Q 160 i _ 3 40 underlying133 hi hz adR hby I Y v n xs ad1 ⟨b,0,none⟩ 1 c news Y (fun j u hu=>by
  have ahN:(⟨b,0,none⟩:Addr).add j=⟨b,0+j,none⟩:=gG;rw[ahN];exact hr j u hu) U aL Y hB
 exact qx
theorem y8{x:Value}{Q:TypeId}(sl y:Operand)(ho:o.op= .call {callee:=.builtin .append,args:= #[sl,y],argTypes:= #[133,133]})(hty:o.type=Q)(hs:a.eval sl=v)(hy:a.eval y=x)
  (hr:(Builtin.append_ #[133,133] Q #[v,x]).run prog w= .ok v' w'):(execOp a.eval o).run prog w= .ok (.value v') w':=by
 exact nJ
theorem AB(x:Operand)(ho:o.op= .buildSlice 133 1 #[(0,x)])(hx:a.eval x=v)(hr:(Instr.buildSlice 133 1 #[(0,v)]).run prog w= .ok v' w'):(execOp a.eval o).run prog w= .ok (.value v') w':=by
 exact nZ
theorem uJ.Ce{l:List Qn}{r:Qn}{css:List (List Value)}(h:wO (I8 B) css l)(hr:I8 B cs r)(hs:rZ B w2)(ho:w2.ownsRow Hh 160 3 v' (l.length+1) (css.flatten++cs)):uJ w2 Hh v' (l++[r]):=by
 exact p8
end Go.Proofs.YtakkipnmpmobbaaGreat
