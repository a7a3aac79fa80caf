/-
  Layer 14,the reference:the reader:name,num.
-/
import Derived.Test.YthnbcmlnpdabhaaGreatRg5z
import Derived.Test.YthnbcmlnpdabhaaGreatHJz
namespace Go.Proofs.YthnbcmlnpdabhaaGreat
open _root_.Go.Proofs.Tryz
set_option maxHeartbeats 8000000
open Go.RowKit
set_option maxRecDepth 100000
set_option linter.unusedVariables false
set_option linter.unusedSimpArgs false
variable {len j E N B g:Nat} {p y a y' p1 y1 p2 y2 p3 y3:Int} {m:List UInt8} {nm:List (List UInt8)} {w:World} {v:Value}
def Ef(w:World)(g:Nat)(m:List UInt8)(a e:Int):Prop:=Z w g 221 [.string (bs m),.int .i64 a,.int .i64 e]
def Step{α:Type}(o:Except Int (α×Nat))(len:Nat)(x:α)(p e:Int):Prop:=match o with
 | .ok (x0,q)=>x=x0/\p=q/\e=0/\q<=len
 | .error y=>e=y/\y≠0
def aar{α:Type}(V:World->Value->α->Prop)(g:Nat)(m:List UInt8)(w:World)(o:Except Int (α×Nat))(e:Ending)(w':World):Prop:=
 ∃v x p y,e= .returned v/\V w' v x/\Ef w' g m p y/\w.grownBy w' (some g)/\Step o m.length x p y
def adG(v:Value)(g:Nat)(m:List UInt8)(a y:Int)(w:World)(e:Ending)(w':World):Prop:=e= .returned v/\Ef w' g m a y/\al w w'
theorem SY(g:Nat)(m:List UInt8)(a y:Int)(k:Nat)(w:World)(h:Ef w g m a y)(hy:y≠0):
  Calls prog 122 #[.pointer (some ⟨g,0,none⟩),.int .i64 k] w (adG (.int .i64 0) g m a y w):=by
 have c2:=h.K 2 J;have hy':(y !=0)=true:=nf;have hy2:(y==0)=false:=nf;clear hy;go_enter func122,ntmps122;go_wp2_with fail;go_quiet(fail);go_wp2_with fail;go_ret;exact⟨J,h.drewN _,below_drewN (Below.refl _ _) _⟩
theorem JE(g:Nat)(m:List UInt8)(a:Nat)(w:World)(h:Ef w g m a 0)(hl:m.length<=65535):
  Calls prog 121 #[.pointer (some ⟨g,0,none⟩)] w (aar zK g m w (xF m a)):=by
 have afr:=Y (fun w=>KJ m a w I);have c2:=h.K 2 J;have hgl:=h.lt;unfold CP at afr;rcases zJ m a with⟨l,n,U,X,h3,h4,h5⟩|⟨x,U,X,h3⟩;all_goals
  rw[U]at afr;rw[X];go_enter func121,ntmps121;go_wp2_with fail;refine wp_region_held_drew (S:=fun W=>Ef W g m a 0) (by kernel_rfl) h.drew (fun M=>?_)
  (refine ag 0 (some 12) J J (by kernel_rfl) (fun W hW=>rfl) M ?_;simp only[z])
  (refine ag 1 (some 13) J J (by kernel_rfl) (fun W hW=>rfl) M ?_;simp only[z])
  (refine ag 2 (some 14) J J (by kernel_rfl) (fun W hW=>rfl) M ?_;simp only[z])
  refine uZ 3 (some 15) 9 (.tmp 14) ⟨g,0,none⟩ J J J J (by kernel_rfl) (by kernel_rfl) (by kernel_rfl) (fun _ _ _ h=>h) (by kernel_rfl) (fun W hW=>tV underlying9 J (Z.K hW 0 J)) M ?_;simp only[z]
  (refine ag 4 (some 16) J J (by kernel_rfl) (fun W hW=>rfl) M ?_;simp only[z])
  (refine ag 5 (some 17) J J (by kernel_rfl) (fun W hW=>rfl) M ?_;simp only[z])
  (refine ag 6 (some 18) J J (by kernel_rfl) (fun W hW=>rfl) M ?_;simp only[z])
  refine uZ 7 (some 19) 3 (.tmp 18) ⟨g,1,none⟩ J J J J (by kernel_rfl) (by kernel_rfl) (by kernel_rfl) (fun _ _ _ h=>h) (by kernel_rfl) (fun W hW=>tV underlying3 J (Z.K hW 1 J)) M ?_;simp only[z];refine uO 8 (some 20) 181 #[.string (bs m),.int .i64 (a:Int)] (by kernel_rfl) J J (by kernel_rfl) bm (afr.out _) ?_;rintro _ w1 ⟨v,rfl,hT,k1',_⟩;have k1:al w w1:=kE;have R1:Ef w1 g m a 0:=Z.G h k1 hgl;refine⟨_,J,R1,?_⟩;clear M;have M:=R1;simp only[z]
  (refine ag 9 (some 11) J J (by kernel_rfl) (fun W hW=>rfl) M ?_;simp only[z])
  (refine ag 10 (some 21) J J (by kernel_rfl) (fun W hW=>rfl) M ?_;simp only[z])
  (refine ag 11 (some 22) J J (by kernel_rfl) (fun W hW=>rfl) M ?_;simp only[z])
  (refine ag 12 (some 23) J J (by kernel_rfl) (fun W hW=>rfl) M ?_;simp only[z])
  (refine ag 13 (some 3) J J (by kernel_rfl) (fun W hW=>rfl) M ?_;simp only[z])
  (refine ag 14 (some 4) J J (by kernel_rfl) (fun W hW=>rfl) M ?_;simp only[z])
  (refine ag 15 (some 5) J J (by kernel_rfl) (fun W hW=>rfl) M ?_;simp only[z])
  refine wpAnyH_done (by kernel_rfl) ?_ _;clear M c2 afr k1'
 ·have N1:=zK.mk' hT h4 h5;simp only[goB,V5,goN]at*;go_wp2_with(refine tO (.store 3 (.tmp 27) (.tmp 25)) J (af J g 1 (.int .i64 (n:Int)) R1 ap uB ?_));intro w3 B3 g3 _;have N3:=N1.ue (ug.uG g3 R1 ax);have gg:=tU (uj k1 _) g3 (.inl J);go_wp2_with(refine tO (.store 142 (.tmp 31) (.tmp 29)) J (af J g 2 (.int .i64 0) B3 ap y7 ?_));intro w4 B4 g4 _;have N4:=N3.ue (ug.uG g4 B3 ax);have gg4:=tU gg g4 (.inl J);go_wp2_with fail;go_ret;exact⟨_,l,n,0,J,N4,B4,gg4,J,J,J,h3⟩
 ·have N1:zK w1 v []:=⟨hT,J⟩;simp only[goB,V5,goN]at*;go_wp2_with(refine tO (.store 3 (.tmp 27) (.tmp 25)) J (af J g 1 (.int .i64 0) R1 ap uB ?_));intro w3 B3 g3 _;have N3:=N1.ue (ug.uG g3 R1 ax);have gg:=tU (uj k1 _) g3 (.inl J);go_wp2_with(refine tO (.store 142 (.tmp 31) (.tmp 29)) J (af J g 2 (.int .i64 x) B3 ap y7 ?_));intro w4 B4 g4 _;have N4:=N3.ue (ug.uG g4 B3 ax);have gg4:=tU gg g4 (.inl J);go_wp2_with fail;go_ret;exact⟨_,[],0,x,J,N4,B4,gg4,J,h3.ne⟩
theorem UM(g:Nat)(m:List UInt8)(a k:Nat)(w:World)(h:Ef w g m a 0)(hl:m.length<=65535)(ha:a<=m.length)(O:k=2\/k=4):
  Calls prog 122 #[.pointer (some ⟨g,0,none⟩),.int .i64 k] w (aar (fun _ v n=>v= .int .i64 ((n:Nat):Int)) g m w (vH m k a)):=by
 unfold vH;have c0:=h.K 0 J;have c1:=h.K 1 J;have c2:=h.K 2 J;have hd:=Vn m k a;have ajc:IntKind.i64.wrap ((a:Int)+k)=a+k:=jc;by_cases hs:m.length<a+k
 ·rw[if_pos hs];have hs':(m.length:Int)<(a:Int)+k:=I;clear hs hd;go_enter func122,ntmps122;go_wp2_with fail;go_quiet(fail);clear ajc;go_wp2_with(refine tO (.store 142 (.tmp 26) (.const (.int .i64 1))) J (af J g 2 (.int .i64 1) (h.drewN _) ap y7 ?_));intro w4 B4 g4 _;have e2:=B4.K 2 J;clear c0 c1 c2;go_wp2_with fail;go_ret;exact⟨_,0,a,1,J,J,B4,tU (xQ (World.grownBy.refl _ _) _) g4 (.inl J),J,ax⟩
 ·
  rw[if_neg hs];have hs':¬(m.length:Int)<(a:Int)+k:=I;replace hd:=hd I;have hN:=Y (fun w=>xW ((m.take (a+k)).drop a) w I);have afE:(a:Int)+k-k=a:=I;go_enter func122,ntmps122;go_wp2_with fail;go_quiet(fail);clear ajc;go_wp2_with(refine tO (.store 3 (.tmp 40) (.tmp 38)) J (af J g 1 (.int .i64 ((a:Int)+k)) (h.drewN _) ap uB ?_));intro w4 B4 g4 _;clear c0 c1 c2;go_wp2_with fail;have hS0:Ef w4.drew g m ((a:Int)+k) 0:=B4.drew;refine wp_region_held_drew (S:=fun W=>Ef W g m ((a:Int)+k) 0) (by kernel_rfl) hS0 (fun M=>?_)
  (refine ag 0 (some 41) J J (by kernel_rfl) (fun W hW=>rfl) M ?_;simp only[z])
  (refine ag 1 (some 42) J J (by kernel_rfl) (fun W hW=>rfl) M ?_;simp only[z])
  (refine ag 2 (some 43) J J (by kernel_rfl) (fun W hW=>rfl) M ?_;simp only[z])
  refine uZ 3 (some 44) 9 (.tmp 43) ⟨g,0,none⟩ J J J J (by kernel_rfl) (by kernel_rfl) (by kernel_rfl) (fun _ _ _ h=>h) (by kernel_rfl) (fun W hW=>tV underlying9 J (Z.K hW 0 J)) M ?_;simp only[z]
  (refine ag 4 (some 45) J J (by kernel_rfl) (fun W hW=>rfl) M ?_;simp only[z])
  (refine ag 5 (some 46) J J (by kernel_rfl) (fun W hW=>rfl) M ?_;simp only[z])
  (refine ag 6 (some 47) J J (by kernel_rfl) (fun W hW=>rfl) M ?_;simp only[z])
  refine uZ 7 (some 48) 3 (.tmp 47) ⟨g,1,none⟩ J J J J (by kernel_rfl) (by kernel_rfl) (by kernel_rfl) (fun _ _ _ h=>h) (by kernel_rfl) (fun W hW=>tV underlying3 J (Z.K hW 1 J)) M ?_;simp only[z]
  (refine ag 8 (some 49) J J (by kernel_rfl) (fun W hW=>rfl) M ?_;simp only[z])
  refine ag 9 (some 50) (v:=.int .i64 a) J J (by kernel_rfl) (fun W hW=>by go_simp;exact IntWalk.i64_in _ I) M ?_;simp only[z]
  (refine ag 10 (some 51) J J (by kernel_rfl) (fun W hW=>rfl) M ?_;simp only[z])
  (refine ag 11 (some 52) J J (by kernel_rfl) (fun W hW=>rfl) M ?_;simp only[z])
  (refine ag 12 (some 53) J J (by kernel_rfl) (fun W hW=>rfl) M ?_;simp only[z])
  refine uZ 13 (some 54) 3 (.tmp 53) ⟨g,1,none⟩ J J J J (by kernel_rfl) (by kernel_rfl) (by kernel_rfl) (fun _ _ _ h=>h) (by kernel_rfl) (fun W hW=>tV underlying3 J (Z.K hW 1 J)) M ?_;simp only[z];have htn:((a:Int)+k).toNat=a+k:=I;refine ag 14 (some 55) (v:=.string (bs ((m.take (a+k)).drop a))) J J (by kernel_rfl) (fun W hW=>by go_simp;rw[if_pos I,if_pos I]) M ?_;simp only[z];refine uO 15 (some 56) 43 #[.string (bs ((m.take (a+k)).drop a))] (by kernel_rfl) J J (by kernel_rfl) bm (hN.out _) ?_;rintro _ w5 ⟨rfl,hw5⟩;subst hw5;refine⟨_,J,M,?_⟩;simp only[z]
  (refine ag 16 (some 4) J J (by kernel_rfl) (fun W hW=>rfl) M ?_;simp only[z])
  refine wpAnyH_done (by kernel_rfl) ?_ _;go_wp2_with fail;go_ret;exact⟨_,uN ((m.take (a+k)).drop a),(a:Int)+k,0,J,J,M,xV (tU (xQ (World.grownBy.refl _ _) _) g4 (.inl J)),J,I,J,I⟩
def adH{α:Type}(V:World->Value->α->Prop)(x0:α)(f:Nat->Except Int (α×Nat))(g:Nat)(m:List UInt8)(a y:Int)(w:World)(e:Ending)(w':World):Prop:=
 ∃v x p y',e= .returned v/\V w' v x/\Ef w' g m p y'/\w.grownBy w' (some g)/\((y≠0->y'=y/\x=x0)/\(y=0->∀k:Nat,a=k->k<=m.length->Step (f k) m.length x p y'))
theorem Ad(g:Nat)(m:List UInt8)(a y:Int)(k:Nat)(w:World)(h:Ef w g m a y)(hl:m.length<=65535)(O:k=2\/k=4)(ha:y=0->∃k:Nat,a=k/\k<=m.length):
    Calls prog 122 #[.pointer (some ⟨g,0,none⟩),.int .i64 k] w (adH (fun _ v n=>v= .int .i64 ((n:Nat):Int)) 0 (vH m k) g m a y w):=by
  by_cases hy:y=0
  · subst hy
    obtain⟨j,rfl,hj⟩:=ha J;refine(UM g m j k w h hl hj O).mono ?_;rintro e w' ⟨v,x,p,y',U,X,h3,h4,h5⟩;exact⟨v,x,p,y',U,X,h3,h4,fun h=>absurd J h,fun _ i hi _=>by(obtain rfl:j=i:=by omega);exact h5⟩
  · refine(SY g m a y k w h hy).mono ?_
    rintro e w' ⟨U,X,h3⟩;exact⟨_,0,a,y,U,J,X,uj h3 _,fun _=>⟨J,J⟩,fun h=>absurd h hy⟩
theorem Step.Gh{α:Type}{o:Except Int (α×Nat)}{x:α}(h:Step o len x p y)(hy:y=0):∃q:Nat,o= .ok (x,q)/\p=q/\q<=len:=by
 cases o with
 |error acZ=>obtain⟨U,X⟩:=h;omega
 |ok acZ=>obtain⟨x0,q⟩:=acZ;obtain⟨U,X,h3,h4⟩:=h;subst U;exact⟨q,J,X,h4⟩
theorem Step.err{α:Type}{o:Except Int (α×Nat)}{x:α}(h:Step o len x p y)(hy:y≠0):o= .error y:=by
 cases o with
 |error acZ=>obtain⟨U,X⟩:=h;rw[U]
 |ok acZ=>obtain⟨x0,q⟩:=acZ;obtain⟨U,X,h3,h4⟩:=h;omega
def Next{α:Type}(x0:α)(f:Nat->Except Int (α×Nat))(len:Nat)(a y:Int)(x:α)(p y':Int):Prop:=(y≠0->y'=y/\x=x0)/\(y=0->∀k:Nat,a=k->k<=len->Step (f k) len x p y')
theorem Next.Gh{α:Type}{x0:α}{f:Nat->Except Int (α×Nat)}{x:α}(h:Next x0 f len a y x p y')(hy:y'=0)(ha:y=0->∃k:Nat,a=k/\k<=len):y=0/\∃k q:Nat,a=k/\f k= .ok (x,q)/\p=q/\q<=len:=by
 by_cases h0:y=0
 ·obtain⟨k,O,hl⟩:=ha h0;obtain⟨q,U,X,h3⟩:=(h.2 h0 k O hl).Gh hy;exact⟨h0,k,q,O,U,X,h3⟩
 ·have:=(h.1 h0).1;omega
theorem Next.err{α:Type}{x0:α}{f:Nat->Except Int (α×Nat)}{x:α}(h:Next x0 f len a y x p y')(hy:y'≠0)(ha:y=0->∃k:Nat,a=k/\k<=len):(y≠0/\y'=y)\/(y=0/\∃k:Nat,a=k/\f k= .error y'):=by
 by_cases h0:y=0
 ·obtain⟨k,O,hl⟩:=ha h0;exact .inr ⟨h0,k,O,(h.2 h0 k O hl).err hy⟩
 ·exact .inl ⟨h0,(h.1 h0).1⟩
theorem Next.pos{α:Type}{x0:α}{f:Nat->Except Int (α×Nat)}{x:α}(h:Next x0 f len a y x p y')(ha:y=0->∃k:Nat,a=k/\k<=len):y'=0->∃k:Nat,p=k/\k<=len:=by
 intro hy;obtain⟨_,_,q,_,_,h3,h4⟩:=h.Gh hy ha;exact⟨q,h3,h4⟩
theorem aeB{ak:Nat}{p4 y4:Int}{sz:Nat}{p5 y5:Int}
  (s1:Step (xF m j) m.length nm p1 y1) (s2:Next 0 (vH m 2) m.length p1 y1 E p2 y2) (s3:Next 0 (vH m 2) m.length p2 y2 N p3 y3) (s4:Next 0 (vH m 4) m.length p3 y3 ak p4 y4) (s5:Next 0 (vH m 2) m.length p4 y4 sz p5 y5):
  (y5≠0/\uY m j= .error y5)\/(y5=0/\∃q:Nat,p5=q/\q<=m.length/\sz<65536/\uY m j=(if m.length<q+sz then .error 1 else match yn m q sz E N with
   | .error e=>.error e
   | .ok r=>.ok ({r with name:=nm,E:=E,N:=N,ak:=ak},q+sz))):=by
 have a1:y1=0->∃k:Nat,p1=k/\k<=m.length:=fun h=>by obtain⟨q,_,X,h3⟩:=s1.Gh h;exact⟨q,X,h3⟩
 have a2:=s2.pos a1;have a3:=s3.pos a2;have a4:=s4.pos a3;by_cases h5:y5=0
 ·right;obtain⟨e4,k4,q5,i4,f5,i5,l5⟩:=s5.Gh h5 a4;obtain⟨e3,k3,q4,i3,f4,i4',l4⟩:=s4.Gh e4 a3;obtain⟨e2,k2,q3,i2,f3,i3',l3⟩:=s3.Gh e3 a2;obtain⟨e1,k1,q2,i1,f2,i2',l2⟩:=s2.Gh e2 a1;obtain⟨q1,f1,i1',l1⟩:=s1.Gh e1;obtain rfl:k1=q1:=I;obtain rfl:k2=q2:=I;obtain rfl:k3=q3:=I;obtain rfl:k4=q4:=I;refine⟨h5,q5,i5,l5,NF f5,?_⟩;unfold uY;rw[f1];simp only;rw[f2];simp only;rw[f3];simp only;rw[f4];simp only;rw[f5];rfl
 ·
  left;refine⟨h5,?_⟩;have hE:(y1≠0->xF m j= .error y1):=fun h=>s1.err h
  rcases s5.err h5 a4 with⟨e4,rfl⟩|⟨e4,k4,i4,f5⟩
  ·
   rcases s4.err e4 a3 with⟨e3,rfl⟩|⟨e3,k3,i3,f4⟩
   ·
    rcases s3.err e3 a2 with⟨e2,rfl⟩|⟨e2,k2,i2,f3⟩
    ·
     rcases s2.err e2 a1 with⟨e1,rfl⟩|⟨e1,k1,i1,f2⟩
     ·unfold uY;rw[s1.err e1]
     ·obtain⟨q1,f1,i1',l1⟩:=s1.Gh e1;obtain rfl:k1=q1:=I;unfold uY;rw[f1];simp only;rw[f2]
    ·obtain⟨e1,k1,q2,i1,f2,i2',l2⟩:=s2.Gh e2 a1;obtain⟨q1,f1,i1',l1⟩:=s1.Gh e1;obtain rfl:k1=q1:=I;obtain rfl:k2=q2:=I;unfold uY;rw[f1];simp only;rw[f2];simp only;rw[f3]
   ·obtain⟨e2,k2,q3,i2,f3,i3',l3⟩:=s3.Gh e3 a2;obtain⟨e1,k1,q2,i1,f2,i2',l2⟩:=s2.Gh e2 a1;obtain⟨q1,f1,i1',l1⟩:=s1.Gh e1;obtain rfl:k1=q1:=I;obtain rfl:k2=q2:=I;obtain rfl:k3=q3:=I;unfold uY;rw[f1];simp only;rw[f2];simp only;rw[f3];simp only;rw[f4]
  ·obtain⟨e3,k3,q4,i3,f4,i4',l4⟩:=s4.Gh e4 a3;obtain⟨e2,k2,q3,i2,f3,i3',l3⟩:=s3.Gh e3 a2;obtain⟨e1,k1,q2,i1,f2,i2',l2⟩:=s2.Gh e2 a1;obtain⟨q1,f1,i1',l1⟩:=s1.Gh e1;obtain rfl:k1=q1:=I;obtain rfl:k2=q2:=I;obtain rfl:k3=q3:=I;obtain rfl:k4=q4:=I;unfold uY;rw[f1];simp only;rw[f2];simp only;rw[f3];simp only;rw[f4];simp only;rw[f5]
def adI(o:Except Int RR)(w:World)(e:Ending)(w':World):Prop:=
 ∃cs r x,e= .returned (.tuple #[.agg cs.toArray,.int .i64 x])/\wR w' cs r/\al w w'/\((x=0/\o= .ok r)\/(x≠0/\o= .error x))
theorem ab4(m:List UInt8)(a n:Nat)(E N:Int)(w:World)(hm:a+n<=m.length)(hl:m.length<=4000000):
  Calls prog 182 #[.string (bs m),.int .i64 a,.int .i64 n,.int .i64 E,.int .i64 N] w (adI (yn m a n E N) w):=by
 refine(ab3 m a n E N w hm hl).mono fun e w' h=>?_
 cases ho:yn m a n E N with
 |error x=>rw[ho]at h;obtain⟨U,X,h3⟩:=h;exact⟨vG,RR.zero,x,X,wR.zero w',h3,.inr ⟨U,J⟩⟩
 |ok r=>rw[ho]at h;obtain⟨cs,U,X,h3⟩:=h;exact⟨cs,r,0,U,X,h3,.inl ⟨J,J⟩⟩
def ae5(B n:Nat)(w:World)(v:Value)(l:List RR):Prop:=uD w B v l/\l.length<=n
structure aas (m:List UInt8) (aek:Except Int (List RR×Nat)) (acc:List RR) (c:Nat) (p y:Int):Prop where
 ok:y=0->∃j:Nat,p=j/\j<=m.length/\xy acc (uJ (uY m) c j)=aek
 bad:y≠0->aek= .error y
theorem uD.yG{w':World}{l:List RR}(h:uD w B v l)(hg:w.grownBy w' (some g))(hne:∀k,v.ownBlock=some k->k≠g)(hs:ug w w'):uD w' B v l:=h.ue (fun _ x=>World.ownsRow.kept x hg (by
 cases hv:v.ownBlock with
 |none=>exact .inl J
 |some k=>exact .inr (fun e=>by injection e with e;exact hne k hv e))) (fun _ _ x=>x.ue hs)
theorem uD.blt{l:List RR}(h:uD w B v l):∀k,v.ownBlock=some k->k<w.heap.size:=by
 obtain⟨css,ho,_⟩:=h;exact fun k O=>(ho.lt k O).2
theorem I9(g:Nat)(m:List UInt8)(a y:Int)(n:Nat)(w:World)(h:Ef w g m a y)(hl:m.length<=65535)(hn:n<=65535)(aek:Except Int (List RR×Nat))(hO:aas m aek [] n a y):
  Calls prog 123 #[.pointer (some ⟨g,0,none⟩),.int .i64 n] w (aar (ae5 w.heap.size n) g m w aek):=by
 have HO:=Y (show aas m aek [] (n-0) a y from hO);clear hO;go_enter func123,ntmps123;go_wp2_with fail;go_loopw[5,6] (fun lv iv wr=>∃(k:Nat) (acc:List RR) (p y':Int),k<=n/\iv= .int .i64 k/\Hid (acc.length=k)/\uD wr w.heap.size lv acc/\Ef wr g m p y'/\w.grownBy wr (some g)/\Hid (aas m aek acc (n-k) p y')) (fun _ iv _=>n-(intOf iv).toNat)
 case atStart=>exact⟨0,[],a,y,Nat.zero_le _,J,Y J,uD.nil _ _,h,World.grownBy.refl _ _,HO⟩
 clear HO h;obtain⟨k,acc,p,y',O,rfl,HAL,oR,R,afr,HO⟩:=hrel;have ao2:acc.length<=65535:=jE;have asu:acc.length<=n:=jE;obtain⟨A,c,hv⟩:=oR.form;subst hv;have c2:=R.K 2 J;by_cases Hh:k<n
 case neg=>
  obtain rfl:k=n:=I;have tQ:¬(k:Int)<k:=I;clear Hh;go_wp2_with fail;go_ret;refine⟨_,acc,p,y',J,⟨oR,asu⟩,R,afr,?_⟩;by_cases hy:y'=0
  ·obtain⟨j,U,X,h3⟩:=HO.out.ok hy;rw[Nat.sub_self,IB]at h3;subst h3;exact⟨J,U,hy,X⟩
  ·rw[HO.out.bad hy];exact⟨J,hy⟩
 have tQ:(k:Int)<n:=I;by_cases hy:y'=0
 case neg=>have hy2:(y'==0)=false:=nf;have hO:=HO.out.bad hy;have HY:=Y hy;clear hy HO;subst hO;go_wp2_with fail;go_ret;exact⟨_,acc,p,y',J,⟨oR,asu⟩,R,afr,J,HY.out⟩
 subst hy;obtain⟨j,rfl,hj,F⟩:=HO.out.ok J;have HB:=Y (show xy acc (uJ (uY m) ((n-(k+1))+1) j)=aek by rw[show n-(k+1)+1=n-k by omega];exact F);have NC:=Y (JE g m j wr R hl);clear F HO;go_wp2_with fail;refine NC.out.mono ?_;rintro _ w1 ⟨v1,nm,p1,y1,rfl,N1,R1,g1,S1⟩;have o1:=oR.uG g1 R ax ax;have G1:=vi afr g1;have a1:y1=0->∃k:Nat,p1=k/\k<=m.length:=fun h=>by obtain⟨q,_,X,h3⟩:=S1.Gh h;exact⟨q,X,h3⟩
 have A1:=Y a1;have T1:=Y S1;have C2:=Y (Ad g m p1 y1 2 w1 R1 hl (.inl J) a1);clear NC oR R afr g1 c2 a1 S1;go_wp2_with fail;refine C2.out.mono ?_;rintro _ w2 ⟨_,E,p2,y2,rfl,rfl,R2,g2,S2⟩;have o2:=o1.uG g2 R1 ax ax;have G2:=vi G1 g2;have N2:=N1.ue (ug.uG g2 R1 ax);have a2:=Next.pos S2 A1.out;have T2:=Y (show Next 0 (vH m 2) m.length p1 y1 E p2 y2 from S2);have C3:=Y (Ad g m p2 y2 2 w2 R2 hl (.inl J) a2);have A2:=Y a2;clear C2 o1 R1 G1 g2 N1 a2 S2;go_wp2_with fail;refine C3.out.mono ?_;rintro _ w3 ⟨_,N,p3,y3,rfl,rfl,R3,g3,S3⟩;have o3:=o2.uG g3 R2 ax ax;have G3:=vi G2 g3;have N3:=N2.ue (ug.uG g3 R2 ax);have a3:=Next.pos S3 A2.out;have T3:=Y (show Next 0 (vH m 2) m.length p2 y2 N p3 y3 from S3);have C4:=Y (Ad g m p3 y3 4 w3 R3 hl (.inr J) a3);have A3:=Y a3;clear C3 o2 R2 G2 g3 N2 a3 S3;go_wp2_with fail;refine C4.out.mono ?_;rintro _ w4 ⟨_,ak,p4,y4,rfl,rfl,R4,g4,S4⟩;have o4:=o3.uG g4 R3 ax ax;have G4:=vi G3 g4;have N4:=N3.ue (ug.uG g4 R3 ax);have a4:=Next.pos S4 A3.out;have T4:=Y (show Next 0 (vH m 4) m.length p3 y3 ak p4 y4 from S4);have C5:=Y (Ad g m p4 y4 2 w4 R4 hl (.inl J) a4);clear C4 o3 R3 G3 g4 N3 a4 S4;go_wp2_with fail;refine C5.out.mono ?_;rintro _ w5 ⟨_,sz,p5,y5,rfl,rfl,R5,g5,S5⟩;have o5:=o4.uG g5 R4 ax ax;have G5:=vi G4 g5;have N5:=N4.ue (ug.uG g5 R4 ax);have T5:=Y (show Next 0 (vH m 2) m.length p4 y4 sz p5 y5 from S5);clear C5 o4 R4 G4 g5 N4 S5;have e0:=R5.K 0 J;have e1:=R5.K 1 J;have e2:=R5.K 2 J;rcases aeB T1.out T2.out T3.out T4.out T5.out with⟨h5,hE⟩|⟨h5,q,hq,hql,aET,hE⟩
 ·have hy2:(y5==0)=false:=ni;have hy3:(y5 !=0)=true:=ni;have HE:=Y (HB.out.symm.trans (BH hE));have HY:=Y h5;clear T1 T2 T3 T4 T5 A1 A2 A3 h5 hE HB;go_wp2_with fail;go_quiet(fail);go_wp2_with fail;go_ret;rw[HE.out];exact⟨tS,[],p5,y5,J,⟨uD.nil _ _,Nat.zero_le _⟩,R5.drewN _,xQ G5 _,J,HY.out⟩
 subst h5 hq;clear T1 T2 T3 T4 T5 A1 A2 A3;have ajc:IntKind.i64.wrap ((q:Int)+sz)=q+sz:=jc;by_cases hs:m.length<q+sz
 ·rw[if_pos hs]at hE;have hs':(m.length:Int)<(q:Int)+sz:=I;have HE:=Y (HB.out.symm.trans (BH hE));clear hs hE HB;go_wp2_with fail;go_quiet(fail);clear ajc;go_wp2_with(refine tO (.store 142 (.tmp 57) (.const (.int .i64 1))) J (af J g 2 (.int .i64 1) (R5.drewN _) ap y7 ?_));intro w6 B6 g6 _;have f2:=B6.K 2 J;have G6:=vi (xQ G5 _) g6;clear e0 e1 e2 R5 G5 g6;go_wp2_with fail;go_ret;rw[HE.out];exact⟨tS,[],q,1,J,⟨uD.nil _ _,Nat.zero_le _⟩,B6,G6,J,ax⟩
 rw[if_neg hs]at hE;have hs':¬(m.length:Int)<(q:Int)+sz:=I;have GC:=Y (fun w=>ab4 m q sz (E:Int) (N:Int) w I I);have hqs:q+sz<=m.length:=I;have HE:=Y hE;clear hs hE;go_wp2_with fail;go_quiet(fail);clear ajc;go_wp2_with fail;refine wp_region_held_drew (S:=fun W=>Ef W g m (q:Int) 0) (by kernel_rfl) ((Z.drewN R5 _).drew) (fun M=>?_)
 (refine ag 0 (some 64) J J (by kernel_rfl) (fun W hW=>rfl) M ?_;simp only[z])
 (refine ag 1 (some 65) J J (by kernel_rfl) (fun W hW=>rfl) M ?_;simp only[z])
 (refine ag 2 (some 66) J J (by kernel_rfl) (fun W hW=>rfl) M ?_;simp only[z])
 refine uZ 3 (some 67) 9 (.tmp 66) ⟨g,0,none⟩ J J J J (by kernel_rfl) (by kernel_rfl) (by kernel_rfl) (fun _ _ _ h=>h) (by kernel_rfl) (fun W hW=>tV underlying9 J (Z.K hW 0 J)) M ?_;simp only[z]
 (refine ag 4 (some 68) J J (by kernel_rfl) (fun W hW=>rfl) M ?_;simp only[z])
 (refine ag 5 (some 69) J J (by kernel_rfl) (fun W hW=>rfl) M ?_;simp only[z])
 (refine ag 6 (some 70) J J (by kernel_rfl) (fun W hW=>rfl) M ?_;simp only[z])
 refine uZ 7 (some 71) 3 (.tmp 70) ⟨g,1,none⟩ J J J J (by kernel_rfl) (by kernel_rfl) (by kernel_rfl) (fun _ _ _ h=>h) (by kernel_rfl) (fun W hW=>tV underlying3 J (Z.K hW 1 J)) M ?_;simp only[z]
 (refine ag 8 (some 72) J J (by kernel_rfl) (fun W hW=>rfl) M ?_;simp only[z])
 (refine ag 9 (some 73) J J (by kernel_rfl) (fun W hW=>rfl) M ?_;simp only[z])
 (refine ag 10 (some 74) J J (by kernel_rfl) (fun W hW=>rfl) M ?_;simp only[z])
 refine xu 11 15 (by kernel_rfl) ?_ ?_
 ·
  refine vO 11 (some 75) 182 #[.string (bs m),.int .i64 (q:Int),.int .i64 (sz:Int),.int .i64 (E:Int),.int .i64 (N:Int)] J J (by kernel_rfl) bm (GC.out _) ?_;rintro _ w6 ⟨cs,r0,x,rfl,hO6,b6,hx⟩;have K6:al w5 w6:=tL (w:=(w5.drewN _).drew) ((below_drewN (Below.refl _ w5) _).drew) (Nat.le_refl _) b6;have R6:Ef w6 g m (q:Int) 0:=Z.G R5 K6 (Z.lt R5);have o6:=o5.G K6;have G6:=vk G5 K6;have N6:=N5.ue (ug.G K6);have hcl:=hO6.len;have hc1:=Y hO6.one;refine⟨_,J,R6,?_⟩;clear M;have M:=R6;simp only[z]
  (refine ag 12 (some 63) J J (by kernel_rfl) (fun W hW=>rfl) M ?_;simp only[z])
  (refine ag 13 (some 76) J J (by kernel_rfl) (fun W hW=>rfl) M ?_;simp only[z])
  (refine ag 14 (some 77) J J (by kernel_rfl) (fun W hW=>rfl) M ?_;simp only[z])
  have kn:Below w6.heap.size w6 (w6.alloc (.cells vG.toArray 119)):=gj;have R7:Ef (w6.alloc (.cells vG.toArray 119)) g m (q:Int) 0:=Z.alloc R6 _;refine zF 15 (some 12) (by kernel_rfl) J J (by kernel_rfl) (v:=.pointer (some ⟨w6.heap.size,0,none⟩)) (w':=w6.alloc (.cells vG.toArray 119)) (by kernel_rfl) R7 ?_;simp only[z];refine vz 16 none 119 (.tmp 12) (.tmp 76) (by kernel_rfl) J J J (by kernel_rfl) w6.heap.size 0 J cs J (Z.new w6 119 vG) fC cI hc1.out ?_;intro w8 B8 g8 _;rw[List.drop_of_length_le fC,List.append_nil]at B8;replace B8:Z w8 w6.heap.size 119 cs:=B8;have hg6:g<w6.heap.size:=Z.lt R6;have hb8:w.heap.size<=w6.heap.size:=G6.size;have R8:Ef w8 g m (q:Int) 0:=oo;have HA:=Y (fun k O=>Nat.ne_of_lt (o6.blt k O));have o8:=(o6.G kn).yG g8 HA.out (ug.uG g8 (Z.new w6 119 vG) ax);have N8:=(N6.ue (ug.G kn)).ue (ug.uG g8 (Z.new w6 119 vG) ax);have hO8:=(hO6.ue (ug.G kn)).ue (ug.uG g8 (Z.new w6 119 vG) ax);have G8:w.grownBy w8 (some g):=tU (zk G6 _) g8 (.inr (fun k O=>by injection O with O;omega));clear R7 R6 o6 o5 G6 G5 N6 N5 hO6 kn g8 b6 K6 R5 e0 e1 e2 GC hc1;generalize w6.heap.size=gn at*;refine⟨R8,?_⟩;clear M;have M:=R8;simp only[z]
  (refine ag 17 (some 13) J J (by kernel_rfl) (fun W hW=>rfl) M ?_;simp only[z])
  refine wpAnyH_done (by kernel_rfl) ?_ _;exact ot
 ·
  have Wa:Below w5.heap.size w5 ((w5.drewN nq).drew.alloc (.cells vG.toArray 119)):=((below_drewN (Below.refl _ w5) _).drew).alloc (Nat.le_refl _) _;have R6:Ef ((w5.drewN nq).drew.alloc (.cells vG.toArray 119)) g m (q:Int) 0:=Z.alloc ((Z.drewN R5 _).drew) _;have Bz:Z ((w5.drewN nq).drew.alloc (.cells vG.toArray 119)) w5.heap.size 119 vG:=Z.vP _ 119 vG _ J;refine uM 15 (some 12) (v:=.pointer (some ⟨w5.heap.size,0,none⟩)) (w':=(w5.drewN nq).drew.alloc (.cells vG.toArray 119)) J J (by kernel_rfl) (by kernel_rfl) ?_;refine⟨R6,?_⟩;clear M;have M:=R6;simp only[z];refine uO 11 (some 75) 182 #[.string (bs m),.int .i64 (q:Int),.int .i64 (sz:Int),.int .i64 (E:Int),.int .i64 (N:Int)] (by kernel_rfl) J J (by kernel_rfl) bm (GC.out _) ?_;rintro _ w6 ⟨cs,r0,x,rfl,hO6,b6,hx⟩;have K6:al w5 w6:=tL Wa Wa.size b6;have R7:Ef w6 g m (q:Int) 0:=Z.G R6 b6 (Z.lt R6);have B7:=Bz.G b6 Bz.lt;have o6:=o5.G K6;have G6:=vk G5 K6;have N6:=N5.ue (ug.G K6);have hcl:=hO6.len;have hc1:=Y hO6.one;refine⟨_,J,R7,?_⟩;clear M;have M:=R7;simp only[z]
  (refine ag 12 (some 63) J J (by kernel_rfl) (fun W hW=>rfl) M ?_;simp only[z])
  (refine ag 13 (some 76) J J (by kernel_rfl) (fun W hW=>rfl) M ?_;simp only[z])
  (refine ag 14 (some 77) J J (by kernel_rfl) (fun W hW=>rfl) M ?_;simp only[z])
  refine vz 16 none 119 (.tmp 12) (.tmp 76) (by kernel_rfl) J J J (by kernel_rfl) w5.heap.size 0 J cs J B7 fC cI hc1.out ?_;intro w8 B8 g8 _;rw[List.drop_of_length_le fC,List.append_nil]at B8;replace B8:Z w8 w5.heap.size 119 cs:=B8;have hg6:g<w5.heap.size:=Z.lt R5;have hb8:w.heap.size<=w5.heap.size:=G5.size;have R8:Ef w8 g m (q:Int) 0:=oo;have HA:=Y (fun k O=>Nat.ne_of_lt (o5.blt k O));have o8:=o6.yG g8 HA.out (ug.uG g8 B7 ax);have N8:=N6.ue (ug.uG g8 B7 ax);have hO8:=hO6.ue (ug.uG g8 B7 ax);have G8:w.grownBy w8 (some g):=tU G6 g8 (.inr (fun k O=>by injection O with O;omega));clear R7 R6 o6 o5 G6 G5 N6 N5 hO6 Wa Bz B7 g8 b6 K6 R5 e0 e1 e2 GC hc1;generalize w5.heap.size=gn at*;refine⟨R8,?_⟩;clear M;have M:=R8;simp only[z]
  (refine ag 17 (some 13) J J (by kernel_rfl) (fun W hW=>rfl) M ?_;simp only[z])
  refine wpAnyH_done (by kernel_rfl) ?_ _;exact ot
theorem Dw{n:Nat}{L h2:List Value}(h:Z w g 50 (L++h2.drop n))(hM:h2.length<=n):Z w g 50 L:=by
 exact rn
theorem JS(m:List UInt8)(w:World)(hm:m.length<12):Calls prog 78 #[.string (bs m)] w (DQ (.error 1) w):=by
 have hm':¬(65535:Int)<m.length:=I;have H:=Y (fun w=>OU m w hm);unfold Hd.agg Hd.zero ye at H;clear hm;have C2:=Z.new w 50 uw;have CB:Below w.heap.size w (w.alloc (.cells uw.toArray 50)):=gj;go_enter func78,ntmps78;go_wp2_with fail;refine(H.out _).mono ?_;rintro _ w1 ⟨rfl,b1⟩;have B2:=C2.G b1 C2.lt;have HB:=tL CB CB.size b1;have kk:∀o1 o2,Below w1.heap.size w1 ((w1.alloc o1).alloc o2):=gN;clear b1 C2 CB H;go_wp2_with(refine tO (.store 50 (.tmp 2) (.tmp 25)) J (ab J w.heap.size 0 uw (B2.G (kk _ _) B2.lt) ax ux wT ?_));intro w2 B3 g2 _;have hk:=tN (tL HB HB.size (kk _ _)) g2 (by have:=HB.size;simp;omega) (Nat.le_refl _);clear g2 HB kk B2;go_wp2_with fail;refine uH J w.heap.size J B3 _ underlying50 J ux J (.int .i64 1) J ?_;exact⟨ax,J,hk⟩
theorem Mn(m:List UInt8)(w:World)(hm:65535<m.length):Calls prog 78 #[.string (bs m)] w (DQ (.error 3) w):=by
 have hm':(65535:Int)<m.length:=I;have C2:=Z.new w 50 uw;have CB:Below w.heap.size w (w.alloc (.cells uw.toArray 50)):=gj;clear hm;go_enter func78,ntmps78;go_wp2_with(refine tO (.store 50 (.tmp 2) (.tmp 16)) J (ab J w.heap.size 0 uw C2 ax ux wT ?_));intro w2 B3 g2 _;have hk:=tN CB g2 CB.size (Nat.le_refl _);clear g2 CB C2;go_wp2_with fail;refine uH J w.heap.size J B3 _ underlying50 J ux J (.int .i64 3) J ?_;exact⟨ax,J,hk⟩
structure QuS (m:List UInt8) (aek:Except Int (List Qn×Nat)) (acc:List Qn) (c:Nat) (p y:Int):Prop where
 ok:y=0->∃j:Nat,p=j/\j<=m.length/\xy acc (uJ (vE m) c j)=aek
 bad:y≠0->aek= .error y
theorem adJ
  (s1:Step (xF m j) m.length nm p1 y1) (s2:Next 0 (vH m 2) m.length p1 y1 E p2 y2) (s3:Next 0 (vH m 2) m.length p2 y2 N p3 y3):
  (y3≠0/\vE m j= .error y3)\/(y3=0/\∃q:Nat,p3=q/\q<=m.length/\vE m j= .ok (⟨nm,E,N⟩,q)):=by
 have a1:y1=0->∃k:Nat,p1=k/\k<=m.length:=fun h=>by obtain⟨q,_,X,h3⟩:=s1.Gh h;exact⟨q,X,h3⟩
 have a2:=s2.pos a1;by_cases h3:y3=0
 ·right;obtain⟨e2,k2,q3,i2,f3,i3',l3⟩:=s3.Gh h3 a2;obtain⟨e1,k1,q2,i1,f2,i2',l2⟩:=s2.Gh e2 a1;obtain⟨q1,f1,i1',l1⟩:=s1.Gh e1;obtain rfl:k1=q1:=I;obtain rfl:k2=q2:=I;refine⟨h3,q3,i3',l3,?_⟩;unfold vE;rw[f1];simp only;rw[f2];simp only;rw[f3]
 ·
  left;refine⟨h3,?_⟩;rcases s3.err h3 a2 with⟨e2,rfl⟩|⟨e2,k2,i2,f3⟩
  ·
   rcases s2.err e2 a1 with⟨e1,rfl⟩|⟨e1,k1,i1,f2⟩
   ·unfold vE;rw[s1.err e1]
   ·obtain⟨q1,f1,i1',l1⟩:=s1.Gh e1;obtain rfl:k1=q1:=I;unfold vE;rw[f1];simp only;rw[f2]
  ·obtain⟨e1,k1,q2,i1,f2,i2',l2⟩:=s2.Gh e2 a1;obtain⟨q1,f1,i1',l1⟩:=s1.Gh e1;obtain rfl:k1=q1:=I;obtain rfl:k2=q2:=I;unfold vE;rw[f1];simp only;rw[f2];simp only;rw[f3]
theorem FJ{α:Type}{o:Except Int (α×Nat)}{x:α}(h:Step o m.length x p y)(n:Nat):∃aek,aas m aek [] n p y/\(y=0->∃j:Nat,p=j/\aek=uJ (uY m) n j)/\(y≠0->aek= .error y):=by
 by_cases hy:y=0
 ·obtain⟨q,U,X,h3⟩:=h.Gh hy;exact⟨uJ (uY m) n q,⟨fun _=>⟨q,X,h3,DO _⟩,fun h=>absurd hy h⟩,fun _=>⟨q,X,J⟩,fun h=>absurd hy h⟩
 ·exact⟨.error y,⟨fun h=>absurd h hy,fun _=>rfl⟩,fun h=>absurd h hy,fun _=>rfl⟩
theorem Ov{hd:Hd}{n1 n2 n3:Nat}{OQ:Except Int (List Qn×Nat)}{O1 O2 O3:Except Int (List RR×Nat)}{q:List Qn}{a u x:List RR}{p0 y0:Int}
  (S0:Step OQ m.length q p0 y0) (k1:y0=0->∃j:Nat,p0=j/\O1=uJ (uY m) n1 j) (e1:y0≠0->O1= .error y0)
  (S1:Step O1 m.length a p1 y1) (k2:y1=0->∃j:Nat,p1=j/\O2=uJ (uY m) n2 j) (e2:y1≠0->O2= .error y1)
  (S2:Step O2 m.length u p2 y2) (k3:y2=0->∃j:Nat,p2=j/\O3=uJ (uY m) n3 j) (e3:y2≠0->O3= .error y2)
  (S3:Step O3 m.length x p3 y3):(y3≠0/\NQ m hd n1 n2 n3 OQ= .error y3)\/(y3=0/\∃j:Nat,p3=j/\j<=m.length/\NQ m hd n1 n2 n3 OQ=if j<m.length then .error 2 else .ok ⟨hd,q,a,u,x⟩):=by
 by_cases h0:y0=0
 case neg=>have a0:=S0.err h0;have b1:=e1 h0;rw[b1]at S1;obtain⟨rfl,U⟩:=S1;have b2:=e2 h0;rw[b2]at S2;obtain⟨rfl,X⟩:=S2;have b3:=e3 h0;rw[b3]at S3;obtain⟨rfl,h3⟩:=S3;exact .inl ⟨h0,by rw[a0];rfl⟩
 obtain⟨j0,a0,i0,l0⟩:=S0.Gh h0;obtain⟨j0',i0',b1⟩:=k1 h0;obtain rfl:j0=j0':=I;have r0:NQ m hd n1 n2 n3 OQ=Lp m hd q n1 n2 n3 j0:=by rw[a0];rfl
 by_cases U:y1=0
 case neg=>have a1:=S1.err U;have b2:=e2 U;rw[b2]at S2;obtain⟨rfl,X⟩:=S2;have b3:=e3 U;rw[b3]at S3;obtain⟨rfl,h3⟩:=S3;exact .inl ⟨U,by rw[r0];exact NR (b1.symm.trans a1)⟩
 obtain⟨j1,a1,i1,l1⟩:=S1.Gh U;obtain⟨j1',i1',b2⟩:=k2 U;obtain rfl:j1=j1':=I;have r1:=r0.trans (Rk (hd:=hd) (q:=q) (n2:=n2) (n3:=n3) (b1.symm.trans a1));by_cases X:y2=0
 case neg=>have a2:=S2.err X;have b3:=e3 X;rw[b3]at S3;obtain⟨rfl,h3⟩:=S3;exact .inl ⟨X,by rw[r1];exact NT (b2.symm.trans a2)⟩
 obtain⟨j2,a2,i2,l2⟩:=S2.Gh X;obtain⟨j2',i2',b3⟩:=k3 X;obtain rfl:j2=j2':=I;have r2:=r1.trans (Rl (hd:=hd) (q:=q) (a:=a) (n3:=n3) (b2.symm.trans a2));by_cases h3:y3=0
 case neg=>exact .inl ⟨h3,by rw[r2];exact NU (b3.symm.trans (S3.err h3))⟩
 obtain⟨j3,a3,i3,l3⟩:=S3.Gh h3;exact .inr ⟨h3,j3,i3,l3,by rw[r2];exact Rm (b3.symm.trans a3)⟩
theorem SZ(w:World){ops:Array Oper}{rest:List Oper}{o:Oper}{a:Act}{Q:Exit->Act->World->Prop}(hgd:o.guard=none)(sl x:Operand)
  (ho:o.op= .call {callee:=.builtin .append,args:= #[sl,x],argTypes:= #[47,47]})
  (B:Nat) (v:Value) (n:Nat) (xs:List Value) (hs:a.eval sl=v) (adV:w.ownsRow B 28 3 v n xs) (hB:B<=w.heap.size) (b c:Nat) (hx:a.eval x= .slice (some ⟨b,0,none⟩) 1 c) (news:List Value) (hr:w.rangeAt b 0 news) (hl:news.length=3) (U:∀u∈news,u.oneCell'=true) (F:n<=300000)
  (h:∀v' w',w'.ownsRow B 28 3 v' (n+1) (xs++news)->w.grownBy w' v.ownBlock->wpList prog ops Q rest (a.put o.dst v') w'):wpList prog ops Q (o::rest) a w:=by
 refine wpList_plain hgd fun hb hK=>?_
 obtain⟨v',w',hr',X,h3⟩:=Ci w o.type B v n xs adV hB b c news hr hl U F;unfold Oper.wp execOp;simp only[ho,resolve,invoke,builtin,Sem.run_bind,Sem.run_pure,Result.andThen_ok,List.map_toArray,List.map_cons,List.map_nil,hs,hx,hr'];exact hK _ _ (h v' w' X h3)
theorem Mo(m:List UInt8)(w:World)(h12:12<=m.length)(hl:m.length<=65535):Calls prog 78 #[.string (bs m)] w (DQ (xo m) w):=by
 have hm':¬(65535:Int)<m.length:=I;have H:=Y (fun w=>Qu m w h12);have q0:=yU m 4;have q1:=yU m 6;have q2:=yU m 8;have q3:=yU m 10;obtain⟨aek,hO⟩:=ao (xo m);have DE:Hid (aek=NQ m (Eg (xO m 0) (xO m 2)) (xO m 6) (xO m 8) (xO m 10) (uJ (vE m) (xO m 4) 12)):=Y dx;have NE:Hid (∀x,aek= .error x->x≠0):=nG;rw[hO.out];generalize Eg (xO m 0) (xO m 2)=hd at*;generalize xO m 4=n0 at*;generalize xO m 6=n1 at*;generalize xO m 8=n2 at*;generalize xO m 10=n3 at*;clear hO;unfold ye Hd.agg at H;have C2:=Z.new w 50 uw;have CB:Below w.heap.size w (w.alloc (.cells uw.toArray 50)):=gj;go_enter func78,ntmps78;go_wp2_with fail;refine(H.out _).mono ?_;rintro _ w1 ⟨rfl,b1⟩;have B2':=C2.G b1 C2.lt;have HB':=tL CB CB.size b1;have hsz:w.heap.size<w1.heap.size:=B2'.lt;have kk:∀o1 o2 o3 o4,Below w1.heap.size w1 ((((w1.alloc o1).alloc o2).alloc o3).alloc o4):=hU;clear b1 C2 CB H;go_wp2_with(refine tO (.store 50 (.tmp 8) (.tmp 31)) J (ab J (w1.heap.size+1+1+1) 0 (yh hd tS tS tS tS) (Z.vP _ 50 uw _ ap) (by rw[zP,yJ];omega) dZ (zI _ J J J J) ?_));intro w2 B8 g2 s2;replace B8:=Dw B8 (by have:=zP;have:=yJ hd tS tS tS tS;omega);have B2:=(B2'.G (kk _ _ _ _) B2'.lt).grown g2 az;have HB:=tN (tL HB' HB'.size (kk _ _ _ _)) g2 az I;have BC:Z w2 (w1.heap.size+1) 210 [.int .i64 n0,.int .i64 n1,.int .i64 n2,.int .i64 n3]:=Z.grown (((Z.vP _ 210 [.int .i64 n0,.int .i64 n1,.int .i64 n2,.int .i64 n3] _ ap).alloc _).alloc _) g2 ap;have R:Ef w2 (w1.heap.size+1+1) m ((12:Nat):Int) 0:=Z.grown ((Z.vP _ 221 [.string (bs m),.int .i64 12,.int .i64 0] _ ap).alloc _) g2 ap;have lgc:w.heap.size<w1.heap.size+1:=I;have lgr:w1.heap.size+1<w1.heap.size+1+1:=I;have lg8:w1.heap.size+1+1<w1.heap.size+1+1+1:=I;have ok:QuS m (uJ (vE m) n0 12) [] (n0-0) ((12:Nat):Int) 0:=⟨fun _=>⟨12,J,h12,DO _⟩,fun h=>absurd J h⟩;obtain⟨OQ,hOQ⟩:=ao (uJ (vE m) n0 12);rw[hOQ.out]at DE ok;have HO:=Y ok;clear kk g2 s2 HB' B2' hsz hOQ ok;generalize w1.heap.size+1+1+1=g8 at*;generalize w1.heap.size+1+1=gr at*;generalize w1.heap.size+1=gc at*;go_wp2_with fail;go_loopw[9] (fun iv wr=>∃(k:Nat) (acc:List Qn) (p y:Int) (v:Value),k<=n0/\iv= .int .i64 k/\Hid (acc.length=k)/\Z wr g8 50 (yh hd v tS tS tS)/\wS wr w.heap.size v acc/\Ef wr gr m p y/\Z wr gc 210 [.int .i64 n0,.int .i64 n1,.int .i64 n2,.int .i64 n3]/\Z wr w.heap.size 50 uw/\al w wr/\Hid (QuS m OQ acc (n0-k) p y)) (fun iv _=>n0-(intOf iv).toNat)
 case atStart=>exact⟨0,[],(12:Nat),0,tS,Nat.zero_le _,J,Y J,B8,wS.nil _ _,R,BC,B2,HB,HO⟩
 clear B8 R BC B2 HB HO;obtain⟨k,acc,p,y,v,O,rfl,HAL,B8,oQ,R,BC,B2,HB,HO⟩:=hrel;have ao2:acc.length<=65535:=jE;have cc:=BC.K 0 J;have c2:=R.K 2 J;obtain⟨A,c,hv⟩:=oQ.form;subst hv;by_cases hgo:k<n0/\y=0
 case pos=>
  obtain⟨Hh,rfl⟩:=hgo;have tQ:(k:Int)<n0:=I;obtain⟨j,rfl,hj,F⟩:=HO.out.ok J;have HBh:=Y (show xy acc (uJ (vE m) ((n0-(k+1))+1) j)=OQ by rw[show n0-(k+1)+1=n0-k by omega];exact F);have NC:=Y (JE gr m j wr R hl);clear F HO;go_wp2_with fail;refine NC.out.mono ?_;rintro _ w3 ⟨v1,nm,p1,y1,rfl,N1,R1,g1,S1⟩;have o1:=oQ.uG g1 R ax ax;have M1:=B8.grown g1 az;have E1:=BC.grown g1 az;have F1:=B2.grown g1 az;have K1:=tN HB g1 HB.size I;have a1:y1=0->∃k:Nat,p1=k/\k<=m.length:=fun h=>by obtain⟨q,_,X,h3⟩:=S1.Gh h;exact⟨q,X,h3⟩
  have A1:=Y a1;have T1:=Y S1;have NC2:=Y (Ad gr m p1 y1 2 w3 R1 hl (.inl J) a1);clear NC oQ R B8 BC B2 HB g1 c2 cc a1 S1;go_wp2_with fail;refine NC2.out.mono ?_;rintro _ w4 ⟨_,E,p2,y2,rfl,rfl,R2,g2,S2⟩;have o2:=o1.uG g2 R1 ax ax;have M2:=M1.grown g2 az;have E2:=E1.grown g2 az;have F2:=F1.grown g2 az;have K2:=tN K1 g2 K1.size I;have N2:=N1.ue (ug.uG g2 R1 ax);have a2:=Next.pos S2 A1.out;have T2:=Y (show Next 0 (vH m 2) m.length p1 y1 E p2 y2 from S2);have NC3:=Y (Ad gr m p2 y2 2 w4 R2 hl (.inl J) a2);have A2:=Y a2;clear NC2 o1 R1 M1 E1 F1 K1 g2 N1 a2 S2;go_wp2_with fail;refine NC3.out.mono ?_;rintro _ w5 ⟨_,N,p3,y3,rfl,rfl,R3,g3,S3⟩;have o3:=o2.uG g3 R2 ax ax;have M3:=M2.grown g3 az;have E3:=E2.grown g3 az;have F3:=F2.grown g3 az;have K3:=tN K2 g3 K2.size I;have N3:=N2.ue (ug.uG g3 R2 ax);have T3:=Y (show Next 0 (vH m 2) m.length p2 y2 N p3 y3 from S3);have ZS:Hid (QuS m OQ (acc++[⟨nm,E,N⟩]) (n0-(k+1)) p3 y3):=Y (by
   rcases adJ T1.out T2.out T3.out with⟨h3,hE⟩|⟨h3,q,hq,hql,hE⟩
   ·exact⟨fun h=>absurd h h3,fun _=>HBh.out.symm.trans (BH hE)⟩
   ·
    exact⟨fun _=>⟨q,hq,hql,by rw[<-Fk hE];exact HBh.out⟩,fun h=>absurd h3 h⟩)
  obtain⟨An,cn,hvn,-⟩:=N3.form;subst hvn;clear NC3 o2 R2 M2 E2 F2 K2 g3 N2 S3 T1 T2 T3 A1 A2 HBh;have kn:Below w5.heap.size w5 (w5.alloc (.cells #[.slice An nm.length cn,.int .i64 (E:Int),.int .i64 (N:Int)] 28)):=gj;have oq:JN (w5.alloc (.cells #[.slice An nm.length cn,.int .i64 (E:Int),.int .i64 (N:Int)] 28)) [.slice An nm.length cn,.int .i64 (E:Int),.int .i64 (N:Int)] ⟨nm,E,N⟩:=⟨_,J,N3.ue (ug.G kn)⟩;obtain⟨css,ow,hE⟩:=o3;have ow2:=vQ ow kn;have Bn:=Z.new w5 28 [.slice An nm.length cn,.int .i64 (E:Int),.int .i64 (N:Int)];have hrg:(w5.alloc (.cells #[.slice An nm.length cn,.int .i64 (E:Int),.int .i64 (N:Int)] 28)).rangeAt w5.heap.size 0 [.slice An nm.length cn,.int .i64 (E:Int),.int .i64 (N:Int)]:=Bn.range 0 3 ap;replace hE:=hE.mono (fun _ _ x=>x.ue (ug.G kn));have K4:=tL K3 K3.size kn;have R4:=Z.G R3 kn (Z.lt R3);have M4:=M3.G kn M3.lt;have E4:=E3.G kn E3.lt;have F4:=F3.G kn F3.lt;have m10:=M3.K 10 J;go_wp2_with(at_builtin;go_must(refine SZ _ J (.tmp 52) (.tmp 57) J w.heap.size _ acc.length css.flatten J ow2 K4.size w5.heap.size 1 J _ hrg J oq.one I ?_));intro v5 w6 o5 g5;have S5:=ug.own ow2 ax g5;have q5:wS w6 w.heap.size v5 (acc++[⟨nm,E,N⟩]):=wS.CY (v':=v5) hE oq S5 o5;have M5:=vD M4 ow2 ax g5;have R5:Ef w6 gr m p3 y3:=iW;have E5:=vD E4 ow2 ax g5;have F5:=vD F4 ow2 ax g5;have K5:=xC K4 K4.size ow2 g5;obtain⟨A5,c5,hv5⟩:=q5.form;subst hv5;clear m10 kn oq ow hE ow2 Bn hrg K4 R4 M4 E4 F4 K3 R3 M3 E3 F3 N3 o5 g5 S5;go_wp2_with(refine tO (.store 47 (.tmp 59) (.tmp 58)) J (af J g8 10 (.slice A5 (acc++[(⟨nm,E,N⟩:Qn)]).length c5) M5 dz DU ?_));intro w7 M7 g7 _;replace M7:Z w7 g8 50 (yh hd (.slice A5 (acc++[(⟨nm,E,N⟩:Qn)]).length c5) tS tS tS):=by rw[show(acc++[(⟨nm,E,N⟩:Qn)]).length=acc.length+1 from by simp];exact M7
  have q7:=q5.uG g7 M5 ax ax;have R7:Ef w7 gr m p3 y3:=Z.grown R5 g7 az;have E7:=E5.grown g7 az;have F7:=F5.grown g7 az;have K7:=tN K5 g7 K5.size I;clear M5 q5 R5 E5 F5 K5 g7;go_wp2_with fail;go_roundw
  case rel=>exact⟨k+1,acc++[⟨nm,E,N⟩],p3,y3,_,I,fU,Y dA,M7,q7,R7,E7,F7,K7,ZS⟩
  case measure=>simp[intOf];omega
 have S0:Hid (Step OQ m.length acc p y):=Y (by
  by_cases hy:y=0
  ·obtain rfl:k=n0:=I;obtain⟨j,U,X,h3⟩:=HO.out.ok hy;rw[Nat.sub_self,IB]at h3;rw[<-h3];exact⟨J,U,hy,X⟩
  ·
   rw[HO.out.bad hy];exact⟨J,hy⟩)
 have EX:(¬(k:Int)<n0)\/((k:Int)<n0/\(y==0)=false):=by
  by_cases hkn:k<n0
  ·exact .inr ⟨I,by simp only[beq_eq_false_iff_ne,ne_eq];exact fun h=>hgo ⟨hkn,h⟩⟩
  ·exact .inl I
 clear HO hgo HAL;rcases EX with hx1|⟨hx1,hx2⟩
 ·
  obtain⟨O1,hs1,k1,e1⟩:=FJ S0.out n1;have K1:=Y k1;have E1:=Y e1;have RC:=Y (I9 gr m p y n1 wr R hl I O1 hs1);have cc1:=BC.K 1 J;clear k1 e1 hs1;go_wp2_with fail;refine RC.out.mono ?_;rintro _ w3 ⟨v1,l1,p1,y1,rfl,⟨o1',hl1⟩,R1',g1,S1⟩;have q1:=oQ.uG g1 R ax ax;have M1:=B8.grown g1 az;have C1:=BC.grown g1 az;have D1:=B2.grown g1 az;have H1:=tN HB g1 HB.size I;have T1:=Y S1;obtain⟨A1,c1,hv⟩:=o1'.form;subst hv;clear RC cc cc1 c2 R g1 S1 B8 BC B2 HB oQ;go_wp2_with(refine tO (.store 48 (.tmp 64) (.tmp 63)) J (af J g8 11 (.slice A1 l1.length c1) M1 dz zO ?_));intro w4 M2 g2 zs;clear zs;replace M2:Z w4 g8 50 (yh hd (.slice A acc.length c) (.slice A1 l1.length c1) tS tS):=M2;have q2:=q1.uG g2 M1 ax ax;have o1:=(o1'.uG g2 M1 ax ax).XQ;have R1:Ef w4 gr m p1 y1:=Z.grown R1' g2 az;have C2:=C1.grown g2 az;have D2:=D1.grown g2 az;have H2:=tN H1 g2 H1.size I;clear M1 q1 o1' R1' C1 D1 H1 g2;obtain⟨O2,hs2,k2,e2⟩:=FJ T1.out n2;have K2:=Y k2;have E2:=Y e2;have RC:=Y (I9 gr m p1 y1 n2 w4 R1 hl I O2 hs2);have cc2:=C2.K 2 J;clear k2 e2 hs2;go_wp2_with fail;refine RC.out.mono ?_;rintro _ w5 ⟨v2,l2,p2,y2,rfl,⟨o2',hl2⟩,R2',g3,S2⟩;have q3:=q2.uG g3 R1 ax ax;have o13:=o1.uG g3 R1 ax ax;have M3:=M2.grown g3 az;have C3:=C2.grown g3 az;have D3:=D2.grown g3 az;have H3:=tN H2 g3 H2.size I;have T2:=Y S2;obtain⟨A2,c2',hv⟩:=o2'.form;subst hv;clear RC cc2 R1 g3 S2 M2 C2 D2 H2 q2 o1;go_wp2_with(refine tO (.store 48 (.tmp 69) (.tmp 68)) J (af J g8 12 (.slice A2 l2.length c2') M3 dz zO ?_));intro w6 M4 g4 zs;clear zs;replace M4:Z w6 g8 50 (yh hd (.slice A acc.length c) (.slice A1 l1.length c1) (.slice A2 l2.length c2') tS):=M4;have q4:=q3.uG g4 M3 ax ax;have o14:=o13.uG g4 M3 ax ax;have o24:=(o2'.uG g4 M3 ax ax).XQ;have R2:Ef w6 gr m p2 y2:=Z.grown R2' g4 az;have C4:=C3.grown g4 az;have D4:=D3.grown g4 az;have H4:=tN H3 g4 H3.size I;clear M3 q3 o13 o2' R2' C3 D3 H3 g4;obtain⟨O3,hs3,k3,e3⟩:=FJ T2.out n3;have K3:=Y k3;have E3:=Y e3;have RC:=Y (I9 gr m p2 y2 n3 w6 R2 hl I O3 hs3);have cc3:=C4.K 3 J;clear k3 e3 hs3;go_wp2_with fail;refine RC.out.mono ?_;rintro _ w7 ⟨v3,l3,p3,y3,rfl,⟨o3',hl3⟩,R3',g5,S3⟩;have q5:=q4.uG g5 R2 ax ax;have o15:=o14.uG g5 R2 ax ax;have o25:=o24.uG g5 R2 ax ax;have M5:=M4.grown g5 az;have D5:=D4.grown g5 az;have H5:=tN H4 g5 H4.size I;have CH:=Y (Ov (hd:=hd) S0.out K1.out E1.out T1.out K2.out E2.out T2.out K3.out E3.out S3);obtain⟨A3,c3,hv⟩:=o3'.form;subst hv;clear RC cc3 R2 g5 S3 M4 C4 D4 H4 q4 o14 o24 T1 T2 K1 K2 K3 E1 E2 E3 S0;go_wp2_with(refine tO (.store 48 (.tmp 74) (.tmp 73)) J (af J g8 13 (.slice A3 l3.length c3) M5 dz zO ?_));intro wz M6 g6 zs;clear zs;replace M6:Z wz g8 50 (yh hd (.slice A acc.length c) (.slice A1 l1.length c1) (.slice A2 l2.length c2') (.slice A3 l3.length c3)):=M6;have q6:=q5.uG g6 M5 ax ax;have o16:=o15.uG g6 M5 ax ax;have o26:=o25.uG g6 M5 ax ax;have o36:=(o3'.uG g6 M5 ax ax).XQ;have RZ:Ef wz gr m p3 y3:=Z.grown R3' g6 az;have BZ:=D5.grown g6 az;have HBz:=tN H5 g6 H5.size I;clear M5 q5 o15 o25 o3' R3' D5 H5 g6;have z1:=Z.K RZ 1 J;have z2:=Z.K RZ 2 J;rcases CH.out with⟨hne,hE⟩|⟨h0,j3,hp3,hj3,hE⟩
  ·
   obtain rfl:aek= .error y3:=DE.out.trans hE;have HNE:=hne;have hy2:(y3==0)=false:=jM;have hy3:(y3 !=0)=true:=jM;clear CH DE NE hE M6 q6 o16 o26 o36 hne;go_wp2_with fail;refine wp_region_held_drew (S:=fun V=>V.cell? ⟨gr,2,none⟩=some (.int .i64 (y3))) (by kernel_rfl) (Z.K RZ 2 J) (fun M=>?_);refine ag 0 (some 97) (v:=.agg uw.toArray) J J (by kernel_rfl) (fun W hW=>by kernel_rfl) M ?_;simp only[z]
   (refine ag 1 (some 98) J J (by kernel_rfl) (fun W hW=>rfl) M ?_;simp only[z])
   (refine ag 2 (some 99) J J (by kernel_rfl) (fun W hW=>rfl) M ?_;simp only[z])
   (refine ag 3 (some 100) J J (by kernel_rfl) (fun W hW=>rfl) M ?_;simp only[z])
   refine uZ 4 (some 101) 142 (.tmp 100) ⟨gr,2,none⟩ J J J J (by kernel_rfl) (by kernel_rfl) (by kernel_rfl) (fun _ _ _ h=>h) (by kernel_rfl) (fun W hW=>tV underlying142 J hW) M ?_;simp only[z];refine vz 5 none 50 (.tmp 2) (.tmp 97) (by kernel_rfl) J J J (by kernel_rfl) w.heap.size 0 J uw J (Z.drew BZ) fD ux wT ?_;intro wy By gy _;replace By:=Dw By dK;have RY:=Z.grown (Z.drew RZ) gy az;have HBy:al w wy:=ie;refine⟨Z.K RY 2 J,?_⟩;clear M;have M:=Z.K RY 2 J;simp only[z]
   (refine ag 6 (some 3) J J (by kernel_rfl) (fun W hW=>rfl) M ?_;simp only[z])
   refine wpAnyH_done (by kernel_rfl) ?_ _;exact rj
  subst h0 hp3;by_cases hjl:j3<m.length
  ·
   obtain rfl:aek= .error 2:=nN;have HNE:(2:Int)≠0:=ax;have ak3:(j3:Int)<m.length:=I;clear CH DE NE hE M6 q6 o16 o26 o36 hjl;go_wp2_with(refine tO (.store 142 (.tmp 91) (.const (.int .i64 2))) J (af J gr 2 (.int .i64 2) RZ ap y7 ?_));intro wq RQ gq zs;clear zs;have BQ:=BZ.grown gq az;have HBq:=tN HBz gq HBz.size I;clear z1 z2 RZ BZ HBz gq wz;obtain⟨wz,hwz⟩:∃wz,wz=wq:=gp;subst hwz;have RZ:Ef wz gr m (j3:Int) 2:=RQ;have BZ:=BQ;have HBz:=HBq;have z2:=Z.K RZ 2 J;clear RQ BQ HBq;go_wp2_with fail;refine wp_region_held_drew (S:=fun V=>V.cell? ⟨gr,2,none⟩=some (.int .i64 (2))) (by kernel_rfl) (Z.K RZ 2 J) (fun M=>?_);refine ag 0 (some 97) (v:=.agg uw.toArray) J J (by kernel_rfl) (fun W hW=>by kernel_rfl) M ?_;simp only[z]
   (refine ag 1 (some 98) J J (by kernel_rfl) (fun W hW=>rfl) M ?_;simp only[z])
   (refine ag 2 (some 99) J J (by kernel_rfl) (fun W hW=>rfl) M ?_;simp only[z])
   (refine ag 3 (some 100) J J (by kernel_rfl) (fun W hW=>rfl) M ?_;simp only[z])
   refine uZ 4 (some 101) 142 (.tmp 100) ⟨gr,2,none⟩ J J J J (by kernel_rfl) (by kernel_rfl) (by kernel_rfl) (fun _ _ _ h=>h) (by kernel_rfl) (fun W hW=>tV underlying142 J hW) M ?_;simp only[z];refine vz 5 none 50 (.tmp 2) (.tmp 97) (by kernel_rfl) J J J (by kernel_rfl) w.heap.size 0 J uw J (Z.drew BZ) fD ux wT ?_;intro wy By gy _;replace By:=Dw By dK;have RY:=Z.grown (Z.drew RZ) gy az;have HBy:al w wy:=ie;refine⟨Z.K RY 2 J,?_⟩;clear M;have M:=Z.K RY 2 J;simp only[z]
   (refine ag 6 (some 3) J J (by kernel_rfl) (fun W hW=>rfl) M ?_;simp only[z])
   refine wpAnyH_done (by kernel_rfl) ?_ _;exact rm
  ·exact oG
 ·
  obtain⟨O1,hs1,k1,e1⟩:=FJ S0.out n1;have K1:=Y k1;have E1:=Y e1;have RC:=Y (I9 gr m p y n1 wr R hl I O1 hs1);have cc1:=BC.K 1 J;clear k1 e1 hs1;go_wp2_with fail;refine RC.out.mono ?_;rintro _ w3 ⟨v1,l1,p1,y1,rfl,⟨o1',hl1⟩,R1',g1,S1⟩;have q1:=oQ.uG g1 R ax ax;have M1:=B8.grown g1 az;have C1:=BC.grown g1 az;have D1:=B2.grown g1 az;have H1:=tN HB g1 HB.size I;have T1:=Y S1;obtain⟨A1,c1,hv⟩:=o1'.form;subst hv;clear RC cc cc1 c2 R g1 S1 B8 BC B2 HB oQ;go_wp2_with(refine tO (.store 48 (.tmp 64) (.tmp 63)) J (af J g8 11 (.slice A1 l1.length c1) M1 dz zO ?_));intro w4 M2 g2 zs;clear zs;replace M2:Z w4 g8 50 (yh hd (.slice A acc.length c) (.slice A1 l1.length c1) tS tS):=M2;have q2:=q1.uG g2 M1 ax ax;have o1:=(o1'.uG g2 M1 ax ax).XQ;have R1:Ef w4 gr m p1 y1:=Z.grown R1' g2 az;have C2:=C1.grown g2 az;have D2:=D1.grown g2 az;have H2:=tN H1 g2 H1.size I;clear M1 q1 o1' R1' C1 D1 H1 g2;obtain⟨O2,hs2,k2,e2⟩:=FJ T1.out n2;have K2:=Y k2;have E2:=Y e2;have RC:=Y (I9 gr m p1 y1 n2 w4 R1 hl I O2 hs2);have cc2:=C2.K 2 J;clear k2 e2 hs2;go_wp2_with fail;refine RC.out.mono ?_;rintro _ w5 ⟨v2,l2,p2,y2,rfl,⟨o2',hl2⟩,R2',g3,S2⟩;have q3:=q2.uG g3 R1 ax ax;have o13:=o1.uG g3 R1 ax ax;have M3:=M2.grown g3 az;have C3:=C2.grown g3 az;have D3:=D2.grown g3 az;have H3:=tN H2 g3 H2.size I;have T2:=Y S2;obtain⟨A2,c2',hv⟩:=o2'.form;subst hv;clear RC cc2 R1 g3 S2 M2 C2 D2 H2 q2 o1;go_wp2_with(refine tO (.store 48 (.tmp 69) (.tmp 68)) J (af J g8 12 (.slice A2 l2.length c2') M3 dz zO ?_));intro w6 M4 g4 zs;clear zs;replace M4:Z w6 g8 50 (yh hd (.slice A acc.length c) (.slice A1 l1.length c1) (.slice A2 l2.length c2') tS):=M4;have q4:=q3.uG g4 M3 ax ax;have o14:=o13.uG g4 M3 ax ax;have o24:=(o2'.uG g4 M3 ax ax).XQ;have R2:Ef w6 gr m p2 y2:=Z.grown R2' g4 az;have C4:=C3.grown g4 az;have D4:=D3.grown g4 az;have H4:=tN H3 g4 H3.size I;clear M3 q3 o13 o2' R2' C3 D3 H3 g4;obtain⟨O3,hs3,k3,e3⟩:=FJ T2.out n3;have K3:=Y k3;have E3:=Y e3;have RC:=Y (I9 gr m p2 y2 n3 w6 R2 hl I O3 hs3);have cc3:=C4.K 3 J;clear k3 e3 hs3;go_wp2_with fail;refine RC.out.mono ?_;rintro _ w7 ⟨v3,l3,p3,y3,rfl,⟨o3',hl3⟩,R3',g5,S3⟩;have q5:=q4.uG g5 R2 ax ax;have o15:=o14.uG g5 R2 ax ax;have o25:=o24.uG g5 R2 ax ax;have M5:=M4.grown g5 az;have D5:=D4.grown g5 az;have H5:=tN H4 g5 H4.size I;have CH:=Y (Ov (hd:=hd) S0.out K1.out E1.out T1.out K2.out E2.out T2.out K3.out E3.out S3);obtain⟨A3,c3,hv⟩:=o3'.form;subst hv;clear RC cc3 R2 g5 S3 M4 C4 D4 H4 q4 o14 o24 T1 T2 K1 K2 K3 E1 E2 E3 S0;go_wp2_with(refine tO (.store 48 (.tmp 74) (.tmp 73)) J (af J g8 13 (.slice A3 l3.length c3) M5 dz zO ?_));intro wz M6 g6 zs;clear zs;replace M6:Z wz g8 50 (yh hd (.slice A acc.length c) (.slice A1 l1.length c1) (.slice A2 l2.length c2') (.slice A3 l3.length c3)):=M6;have q6:=q5.uG g6 M5 ax ax;have o16:=o15.uG g6 M5 ax ax;have o26:=o25.uG g6 M5 ax ax;have o36:=(o3'.uG g6 M5 ax ax).XQ;have RZ:Ef wz gr m p3 y3:=Z.grown R3' g6 az;have BZ:=D5.grown g6 az;have HBz:=tN H5 g6 H5.size I;clear M5 q5 o15 o25 o3' R3' D5 H5 g6;have z1:=Z.K RZ 1 J;have z2:=Z.K RZ 2 J;rcases CH.out with⟨hne,hE⟩|⟨h0,j3,hp3,hj3,hE⟩
  ·
   obtain rfl:aek= .error y3:=DE.out.trans hE;have HNE:=hne;have hy2:(y3==0)=false:=jM;have hy3:(y3 !=0)=true:=jM;clear CH DE NE hE M6 q6 o16 o26 o36 hne;go_wp2_with fail;refine wp_region_held_drew (S:=fun V=>V.cell? ⟨gr,2,none⟩=some (.int .i64 (y3))) (by kernel_rfl) (Z.K RZ 2 J) (fun M=>?_);refine ag 0 (some 97) (v:=.agg uw.toArray) J J (by kernel_rfl) (fun W hW=>by kernel_rfl) M ?_;simp only[z]
   (refine ag 1 (some 98) J J (by kernel_rfl) (fun W hW=>rfl) M ?_;simp only[z])
   (refine ag 2 (some 99) J J (by kernel_rfl) (fun W hW=>rfl) M ?_;simp only[z])
   (refine ag 3 (some 100) J J (by kernel_rfl) (fun W hW=>rfl) M ?_;simp only[z])
   refine uZ 4 (some 101) 142 (.tmp 100) ⟨gr,2,none⟩ J J J J (by kernel_rfl) (by kernel_rfl) (by kernel_rfl) (fun _ _ _ h=>h) (by kernel_rfl) (fun W hW=>tV underlying142 J hW) M ?_;simp only[z];refine vz 5 none 50 (.tmp 2) (.tmp 97) (by kernel_rfl) J J J (by kernel_rfl) w.heap.size 0 J uw J (Z.drew BZ) fD ux wT ?_;intro wy By gy _;replace By:=Dw By dK;have RY:=Z.grown (Z.drew RZ) gy az;have HBy:al w wy:=ie;refine⟨Z.K RY 2 J,?_⟩;clear M;have M:=Z.K RY 2 J;simp only[z]
   (refine ag 6 (some 3) J J (by kernel_rfl) (fun W hW=>rfl) M ?_;simp only[z])
   refine wpAnyH_done (by kernel_rfl) ?_ _;exact rj
  subst h0 hp3;by_cases hjl:j3<m.length
  ·
   obtain rfl:aek= .error 2:=nN;have HNE:(2:Int)≠0:=ax;have ak3:(j3:Int)<m.length:=I;clear CH DE NE hE M6 q6 o16 o26 o36 hjl;go_wp2_with(refine tO (.store 142 (.tmp 91) (.const (.int .i64 2))) J (af J gr 2 (.int .i64 2) RZ ap y7 ?_));intro wq RQ gq zs;clear zs;have BQ:=BZ.grown gq az;have HBq:=tN HBz gq HBz.size I;clear z1 z2 RZ BZ HBz gq wz;obtain⟨wz,hwz⟩:∃wz,wz=wq:=gp;subst hwz;have RZ:Ef wz gr m (j3:Int) 2:=RQ;have BZ:=BQ;have HBz:=HBq;have z2:=Z.K RZ 2 J;clear RQ BQ HBq;go_wp2_with fail;refine wp_region_held_drew (S:=fun V=>V.cell? ⟨gr,2,none⟩=some (.int .i64 (2))) (by kernel_rfl) (Z.K RZ 2 J) (fun M=>?_);refine ag 0 (some 97) (v:=.agg uw.toArray) J J (by kernel_rfl) (fun W hW=>by kernel_rfl) M ?_;simp only[z]
   (refine ag 1 (some 98) J J (by kernel_rfl) (fun W hW=>rfl) M ?_;simp only[z])
   (refine ag 2 (some 99) J J (by kernel_rfl) (fun W hW=>rfl) M ?_;simp only[z])
   (refine ag 3 (some 100) J J (by kernel_rfl) (fun W hW=>rfl) M ?_;simp only[z])
   refine uZ 4 (some 101) 142 (.tmp 100) ⟨gr,2,none⟩ J J J J (by kernel_rfl) (by kernel_rfl) (by kernel_rfl) (fun _ _ _ h=>h) (by kernel_rfl) (fun W hW=>tV underlying142 J hW) M ?_;simp only[z];refine vz 5 none 50 (.tmp 2) (.tmp 97) (by kernel_rfl) J J J (by kernel_rfl) w.heap.size 0 J uw J (Z.drew BZ) fD ux wT ?_;intro wy By gy _;replace By:=Dw By dK;have RY:=Z.grown (Z.drew RZ) gy az;have HBy:al w wy:=ie;refine⟨Z.K RY 2 J,?_⟩;clear M;have M:=Z.K RY 2 J;simp only[z]
   (refine ag 6 (some 3) J J (by kernel_rfl) (fun W hW=>rfl) M ?_;simp only[z])
   refine wpAnyH_done (by kernel_rfl) ?_ _;exact rm
  ·exact oG
theorem MM(m:List UInt8)(w:World):Calls prog 78 #[.string (bs m)] w (DQ (xo m) w):=by
 by_cases U:65535<m.length
 ·have e:xo m= .error 3:=nH;rw[e];exact Mn m w U
 ·
  by_cases X:m.length<12
  ·have e:xo m= .error 1:=lY;rw[e];exact JS m w X
  ·exact Mo m w I I
theorem MO(m:List UInt8)(w:World):Calls prog 78 #[.string (bs m)] w (Ua (xo m) w):=(MM m w).mono fun _ _ h=>Vs h
end Go.Proofs.YthnbcmlnpdabhaaGreat
