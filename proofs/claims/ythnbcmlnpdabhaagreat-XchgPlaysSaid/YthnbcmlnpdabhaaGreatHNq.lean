/-
  Layer 12 (packed),the plain law of PackedBack:what is put,one behind the other,is got.
-/
import Derived.Test.YthnbcmlnpdabhaaGreatHAq
namespace Go.Proofs.YthnbcmlnpdabhaaGreat
open _root_.Go.Proofs.Tryz
set_option linter.unusedVariables false
variable {p q k p':Nat}
theorem aaj(x:List UInt8)(T:List (List (List UInt8)×Nat))(hT:Fe x T)(n:List (List UInt8))(hc:uE n=0):
  (∃a,I6 T x.length n=a/\a.length<=vB n+1/\Rd (x++a) x.length x.length n (x.length+a.length))/\Fe (x++I6 T x.length n) (Kl T x.length n):=by
 obtain⟨hg,hs⟩:=xj hc;obtain⟨⟨a,U,X,h3,h4⟩,h5⟩:=adB T x hT n [] hg;unfold I6 Kl;rw[if_pos hc,if_pos hc];refine⟨⟨_,J,?_,?_⟩,?_⟩
 ·rw[U];simpa using X
 ·have:=h4 x.length (Nat.le_refl _);rw[U];simpa using this
 ·
  intro r hr;rcases List.mem_append.1 hr with h|h
  ·exact hT.Cm _ r h
  ·exact h5 r h
theorem OH(x:List UInt8):Fe x []:=by intro r hr;cases hr
theorem Qa(x:List UInt8)(n:List (List UInt8))(hc:uE n=0):(yS n).length=vB n+1/\Rd (x++yS n) x.length x.length n (x.length+(yS n).length):=by
 have e:I6 [] x.length n=yS n:=by unfold I6 yS Py;rw[if_pos hc,if_pos hc,Y4];simp
 obtain⟨⟨a,U,X,h3⟩,_⟩:=aaj x [] (OH x) n hc;rw[e]at U;subst U;refine⟨?_,h3⟩;unfold yS Py;rw[if_pos hc,List.length_append,wA];rfl
set_option linter.unusedSimpArgs false
set_option maxRecDepth 10000
def xg(m:List UInt8)(T:Option Co):Prop:=∀T',T=some T'->Fe m T'
theorem xg.Cm{m:List UInt8}{T:Option Co}(h:xg m T)(y:List UInt8):xg (m++y) T:=fun T' e=>(h T' e).Cm y
theorem BH(x:List UInt8)(T:Option Co)(n:List (List UInt8))(hT:xg x T)(hc:uE n=0):
  Rd (x++vh T x.length n) x.length x.length n (x.length+(vh T x.length n).length)/\xg (x++vh T x.length n) (vL T x.length n)/\(vh T x.length n).length<=vB n+1:=by
 cases T with
 |none=>obtain⟨U,X⟩:=Qa x n hc;exact⟨X,fun T' e=>(by cases e),(by show(yS n).length<=_;omega)⟩
 |some T=>obtain⟨⟨a,U,X,h3⟩,h4⟩:=aaj x T (hT T J) n hc;subst U;exact⟨h3,fun T' e=>(by cases e;exact h4),X⟩
theorem Jm{m:List UInt8}{n:List (List UInt8)}{e:Nat}(h:Rd m p p n e)(hp:p<=m.length)(hc:uE n=0):yd m p= .ok (n,e):=by
 unfold yd;rw[abQ h hp (xj hc).2]
theorem IE{m:List UInt8}{n:List (List UInt8)}{e:Nat}(h:Rd m p p n e)(hp:p<=m.length)(hc:uE n=0):zC m p= .ok (n,e):=by
 unfold zC;rw[Jm h hp hc]
theorem zV(n:Int)(h:yo 65535 n=true):((vw (uA 2 n):Nat):Int)=n:=by
 have X:=IZ 2 n;exact sC
theorem Ct(n:Int)(h:yo 4294967295 n=true):((vw (uA 4 n):Nat):Int)=n:=by
 have X:=IZ 4 n;exact sC
def Wq(r:RR):RR:={r with name:=[],O:=0,N:=0,ak:=0}
structure ROk (r:RR):Prop where
 nm:uE r.name=0
 O:yo 65535 r.O=true
 N:yo 65535 r.N=true
 ak:yo 4294967295 r.ak=true
 has:yC r=0
 bare:AU (yc r)=true
theorem Mp{r:RR}(h:uN r=0):ROk r:=by
 unfold uN at h;by_cases U:uE r.name=0
 ·
  rw[if_neg bC]at h;by_cases X:¬([r.O,r.N].all (yo 65535))=true\/¬yo 4294967295 r.ak=true
  ·rw[if_pos X]at h;cases h
  ·
   rw[if_neg X]at h;by_cases h3:yC r=0
   ·
    rw[if_neg (by simp[h3])]at h;by_cases h4:AU (yc r)=true
    ·simp only[not_or,Classical.not_not,List.all_cons,List.all_nil,Bool.and_true,Bool.and_eq_true]at X;exact⟨U,X.1.1,X.1.2,X.2,h3,h4⟩
    ·rw[if_neg h4]at h;cases h
   ·rw[if_pos h3]at h;exact absurd h h3
 ·exact tG
theorem ad8{r:RR}(h:ROk r):uN r=0:=by
 unfold uN;rw[if_neg (by simp[h.nm]),if_neg (by simp[h.O,h.N,h.ak]),if_neg (by simp[h.has]),if_pos h.bare]
theorem D7{r:RR}:AU r=true↔r.ad=vG.zero/\r.tg=[]/\r.ml=[]/\r.pri=0/\r.we=0/\r.po=0/\r.Hh=[0,0,0,0,0]/\r.raw=[]:=by
 simp[AU,and_assoc]
theorem zt(s d:List UInt8):(s++d).take (s.length+d.length)=s++d:=List.take_of_length_le ap
theorem OI(s:List UInt8)(T:Option Co)(r:RR)(hw:r.wf)(hc:uN r=0)(hT:xg s T):
  yL (s++yT T s.length r) s.length (yT T s.length r).length r.O r.N= .ok (Wq r)/\xg (s++yT T s.length r) (El T s.length r):=by
 have ok:=Mp hc;have hE:=ok.has;have hB:=ok.bare;obtain⟨name,O,N,ak,ad,tg,ml,pri,we,po,Hh,raw⟩:=r;have hw1:ad.ip.length=16:=hw.1;have hw2:Hh.length=5:=hw.2;unfold yL yT El;unfold yC at hE;unfold yc at hB;simp only at hE hB⊢;rcases zQ O N with h|h|h|h|h|h
 ·
  --A
  simp only[h]at hE hB⊢;simp only[if_true,true_or,show ¬((1:Int)=28)by decide,show ¬((1:Int)=5)by decide,show ¬((1:Int)=12)by decide,show ¬((1:Int)=6)by decide,or_self,if_false]at hE hB⊢;obtain⟨b1,b2,b3,b4,b5,b6,b7,b8⟩:=D7.1 hB;simp only at b1 b2 b3 b4 b5 b6 b7 b8;have hd:(ad.ip.take 4).length=4:=by simp[hw1]
  refine⟨?_,hT.Cm _⟩;rw[if_pos hd,zt,List.drop_left];split at hE
  ·cases hE
  ·
   rename_i hn;simp only[not_or,Classical.not_not]at hn;obtain⟨n1,n2,n3⟩:=hn;have n4:ad.ip.drop 4=List.replicate 12 0:=by
    unfold vG.check at n1;rw[if_pos n2]at n1;split at n1
    ·rename_i hh;exact hh.1
    ·cases n1
   have e:ad=⟨4,ad.ip.take 4++List.replicate 12 0,0⟩:=by rw[<-n4,List.take_append_drop,<-n2,<-n3]
   exact tI
 ·
  --aMK
  simp only[h]at hE hB⊢;simp only[if_true,or_true,show ¬((28:Int)=1)by decide,show ¬((28:Int)=5)by decide,show ¬((28:Int)=12)by decide,show ¬((28:Int)=6)by decide,or_self,if_false]at hE hB⊢;obtain⟨b1,b2,b3,b4,b5,b6,b7,b8⟩:=D7.1 hB;simp only at b1 b2 b3 b4 b5 b6 b7 b8;refine⟨?_,hT.Cm _⟩;rw[if_pos hw1,zt,List.drop_left];split at hE
  ·cases hE
  ·
   rename_i hn;simp only[not_or,Classical.not_not]at hn;obtain⟨n1,n2,n3⟩:=hn;have e:ad=⟨6,ad.ip,0⟩:=by rw[<-n2,<-n3]
   exact tI
 ·
  --names
  have U:¬uQ O N=1:=nV;have X:¬uQ O N=28:=nV;have h12:¬(uQ O N=1\/uQ O N=28):=I;rw[if_neg U,if_neg X,if_pos h]at hE;rw[if_neg h12,if_pos h]at hB;rw[if_neg U,if_neg X,if_pos h,if_neg U,if_neg X,if_pos h,if_pos h];obtain⟨b1,b2,b3,b4,b5,b6,b7,b8⟩:=D7.1 hB;simp only at b1 b2 b3 b4 b5 b6 b7 b8;obtain⟨p1,p2,p3⟩:=BH s T tg hT hE;refine⟨?_,p2⟩;rw[zt];unfold xF;rw[IE p1 ap hE];simp only;rw[if_pos ap];subst b1 b3 b4 b5 b6 b7 b8;rfl
 ·
  --SRV
  simp only[h]at hE hB⊢;simp only[if_true,show ¬((33:Int)=1)by decide,show ¬((33:Int)=28)by decide,show ¬((33:Int)=5)by decide,show ¬((33:Int)=12)by decide,show ¬((33:Int)=6)by decide,or_self,if_false]at hE hB⊢;obtain⟨b1,b2,b3,b4,b5,b6,b7,b8⟩:=D7.1 hB;simp only at b1 b2 b3 b4 b5 b6 b7 b8;split at hE
  ·
   rename_i hn;simp only[List.all_cons,List.all_nil,Bool.and_true,Bool.and_eq_true]at hn;obtain⟨n1,n2,n3⟩:=hn;refine⟨?_,hT.Cm _⟩;obtain⟨z1,z2⟩:=Qa (s++(uA 2 pri++uA 2 we++uA 2 po)) tg hE;have hl6:(uA 2 pri++uA 2 we++uA 2 po).length=6:=by simp[uy]
   have hl:(s++(uA 2 pri++uA 2 we++uA 2 po)).length=s.length+6:=by rw[List.length_append,hl6]
   rw[if_neg dD,zt];rw[hl,List.append_assoc]at z2;unfold xF;rw[IE z2 dD hE];simp only;rw[if_pos dD,List.drop_left];have t1:(uA 2 pri++uA 2 we++uA 2 po++yS tg).take 2=uA 2 pri:=by rw[List.append_assoc,List.append_assoc];exact List.take_left' (uy 2 _)
   have d2:(uA 2 pri++uA 2 we++uA 2 po++yS tg).drop 2=uA 2 we++(uA 2 po++yS tg):=by rw[List.append_assoc,List.append_assoc];exact List.drop_left' (uy 2 _)
   have d4:(uA 2 pri++uA 2 we++uA 2 po++yS tg).drop 4=uA 2 po++yS tg:=by rw[show(4:Nat)=2+2 from J,<-List.drop_drop,d2];exact List.drop_left' (uy 2 _)
   rw[t1,d2,d4,List.take_left' (uy 2 _),List.take_left' (uy 2 _),zV _ n1,zV _ n2,zV _ n3];subst b1 b3 b7 b8;rfl
  ·cases hE
 ·
  --SOA
  simp only[h]at hE hB⊢;simp only[if_true,show ¬((6:Int)=1)by decide,show ¬((6:Int)=28)by decide,show ¬((6:Int)=5)by decide,show ¬((6:Int)=12)by decide,show ¬((6:Int)=33)by decide,or_self,if_false]at hE hB⊢;obtain⟨b1,b2,b3,b4,b5,b6,b7,b8⟩:=D7.1 hB;simp only at b1 b2 b3 b4 b5 b6 b7 b8;by_cases e1:uE tg=0
  ·
   rw[if_neg dE]at hE;by_cases e2:uE ml=0
   ·
    rw[if_neg (by simp[e2])]at hE;split at hE
    ·
     rename_i hn;obtain⟨p1,p2,p3⟩:=BH s T tg hT e1;obtain⟨A,hA⟩:∃A,A=vh T s.length tg:=gG;rw[<-hA]at p1 p2 p3⊢;have hat:((s.length:Int)+(A.length:Int))=(((s++A).length:Nat):Int):=ap;rw[hat];obtain⟨q1,q2,q3⟩:=BH (s++A) (vL T s.length tg) ml p2 e2;obtain⟨B,hB'⟩:∃B,B=vh (vL T s.length tg) ((s++A).length:Nat) ml:=gG;rw[<-hB']at q1 q2 q3⊢;obtain⟨ae,hN⟩:∃ae,ae=Hh.flatMap (uA 4):=gG;rw[<-hN];have hNl:ae.length=20:=by
      rw[hN];match Hh,hw2 with
      |[x0,x1,x2,x3,x4],_=>simp[uy]
     have hm:s++(A++B++ae)=s++A++B++ae:=ap;refine⟨?_,by rw[hm];exact q2.Cm _⟩;rw[zt,hm];have p1':Rd (s++A++B++ae) s.length s.length tg (s.length+A.length):=(p1.Cm B).Cm ae;have q1':Rd (s++A++B++ae) (s++A).length (s++A).length ml ((s++A).length+B.length):=q1.Cm ae;rw[IE p1' dF e1];simp only;rw[show s.length+A.length=(s++A).length by simp,IE q1' dF e2];simp only;rw[if_pos (by simp only[List.length_append,hNl])];have axR:zL (s++A++B++ae) ((s++A).length+B.length)=Hh:=by
      have hd:(s++A++B++ae).drop ((s++A).length+B.length)=ae:=by rw[<-List.length_append,List.drop_left]
      unfold zL;simp only[<-List.drop_drop,hd];match Hh,hw2,hN,hn with
      |[x0,x1,x2,x3,x4],_,hN,hn=>
       simp only[List.all_cons,List.all_nil,Bool.and_true,Bool.and_eq_true]at hn;obtain⟨n0,n1,n2,n3,n4⟩:=hn;have hN':ae=uA 4 x0++(uA 4 x1++(uA 4 x2++(uA 4 x3++(uA 4 x4)))):=by rw[hN];simp
       have f1:ae.drop 4=uA 4 x1++(uA 4 x2++(uA 4 x3++(uA 4 x4))):=by rw[hN'];exact List.drop_left' (uy 4 _)
       have f2:ae.drop 8=uA 4 x2++(uA 4 x3++(uA 4 x4)):=by rw[show(8:Nat)=4+4 from J,<-List.drop_drop,f1];exact List.drop_left' (uy 4 _)
       have f3:ae.drop 12=uA 4 x3++(uA 4 x4):=by rw[show(12:Nat)=8+4 from J,<-List.drop_drop,f2];exact List.drop_left' (uy 4 _)
       have f4:ae.drop 16=uA 4 x4:=by rw[show(16:Nat)=12+4 from J,<-List.drop_drop,f3];exact List.drop_left' (uy 4 _)
       have g0:ae.take 4=uA 4 x0:=by rw[hN'];exact List.take_left' (uy 4 _)
       rw[f1,f2,f3,f4,g0,List.take_left' (uy 4 _),List.take_left' (uy 4 _),List.take_left' (uy 4 _),List.take_of_length_le (by rw[uy];omega),Ct _ n0,Ct _ n1,Ct _ n2,Ct _ n3,Ct _ n4]
     rw[axR];subst b1 b4 b5 b6 b8;rfl
    ·cases hE
   ·rw[if_pos e2]at hE;exact absurd hE e2
  ·rw[if_pos e1]at hE;exact absurd hE e1
 ·
  --aw4
  simp only[h]at hE hB⊢;simp only[if_true,show ¬((0:Int)=1)by decide,show ¬((0:Int)=28)by decide,show ¬((0:Int)=5)by decide,show ¬((0:Int)=12)by decide,show ¬((0:Int)=33)by decide,show ¬((0:Int)=6)by decide,or_self,if_false]at hE hB⊢;obtain⟨b1,b2,b3,b4,b5,b6,b7,b8⟩:=D7.1 hB;simp only at b1 b2 b3 b4 b5 b6 b7 b8;refine⟨?_,hT.Cm _⟩;rw[zt,List.drop_left];subst b1 b2 b3 b4 b5 b6 b7;rfl
open Go.RowKit
set_option maxRecDepth 100000
theorem Hm(b:Bool)(n:Int):∃x:Int,xp b n=n*x/\0<=x/\x<=1/\(x==1)=b:=by
 cases b
 ·exact⟨0,by simp[xp],I,I,J⟩
 ·exact⟨1,by simp[xp],I,I,J⟩
theorem Jn(h:Hd):h.ok=true↔(0<=h.id/\h.id<=65535)/\(0<=h.op/\h.op<=15)/\(0<=h.rc/\h.rc<=15):=by simp[Hd.ok,and_assoc]
theorem XV(h:Hd)(z:h.ok=true):0<=h.num/\h.num<=65535:=by
 obtain⟨_,⟨o0,o1⟩,⟨r0,r1⟩⟩:=(Jn h).1 z;have a:=vo h.qr 32768 az;have b:=vo h.aa 1024 az;have c:=vo h.tc 512 az;have d:=vo h.rd 256 az;have e:=vo h.ra 128 az;have f:=vo h.ad 32 az;have g:=vo h.cd 16 az;unfold Hd.num;omega
theorem aak(n:Int)(h:0<=n/\n<=65535):(vw (uA 2 n):Int)=n:=by
 rw[IZ];have:((256^2:Nat):Int)=65536:=rfl;rw[this];omega
theorem aal(h:Hd)(z:h.ok=true):ES (vw (uA 2 h.id)) (vw (uA 2 h.num))=h:=by
 have hn:=aak h.num (XV h z);obtain⟨hi,⟨o0,o1⟩,⟨r0,r1⟩⟩:=(Jn h).1 z;have hid:=aak h.id hi;generalize vw (uA 2 h.num)=ae at*;generalize vw (uA 2 h.id)=aOc at*;obtain⟨id,qr,op,aa,tc,rd,ra,ad,cd,rc⟩:=h;simp only[Hd.num]at*;obtain⟨x1,e1,p1,q1,rfl⟩:=Hm qr 32768;obtain⟨x2,e2,p2,q2,rfl⟩:=Hm aa 1024;obtain⟨x3,e3,p3,q3,rfl⟩:=Hm tc 512;obtain⟨x4,e4,p4,q4,rfl⟩:=Hm rd 256;obtain⟨x5,e5,p5,q5,rfl⟩:=Hm ra 128;obtain⟨x6,e6,p6,q6,rfl⟩:=Hm ad 32;obtain⟨x7,e7,p7,q7,rfl⟩:=Hm cd 16;rw[e1,e2,e3,e4,e5,e6,e7]at hn;have key:∀(k:Nat) (x:Int),(0<=x/\x<=1)->(ae:Int)/(k:Int)%2=x->AW ae k=(x==1):=by intro k x hx he;rw[<-JQ,he]
 simp only[ES,Hd.mk.injEq];refine⟨hid,key 32768 x1 ⟨p1,q1⟩ ?_,?_,key 1024 x2 ⟨p2,q2⟩ ?_,key 512 x3 ⟨p3,q3⟩ ?_,key 256 x4 ⟨p4,q4⟩ ?_,key 128 x5 ⟨p5,q5⟩ ?_,key 32 x6 ⟨p6,q6⟩ ?_,key 16 x7 ⟨p7,q7⟩ ?_,?_⟩;all_goals omega
theorem Gp(a b c:List UInt8)(k:Nat)(ha:a.length=k)(Z:b.length=2):yq (a++(b++c)) k=vw b:=by
 subst ha;unfold yq;rw[List.drop_left,<-Z,List.take_left]
theorem aca(h:Hd)(c0 c1 c2 c3:Int)(more:List UInt8):yq (xC h c0 c1 c2 c3++more) 0=vw (uA 2 h.id)/\yq (xC h c0 c1 c2 c3++more) 2=vw (uA 2 h.num)/\yq (xC h c0 c1 c2 c3++more) 4=vw (uA 2 c0)/\
  yq (xC h c0 c1 c2 c3++more) 6=vw (uA 2 c1)/\yq (xC h c0 c1 c2 c3++more) 8=vw (uA 2 c2)/\yq (xC h c0 c1 c2 c3++more) 10=vw (uA 2 c3):=by
 have l:=uy 2;unfold xC;refine⟨?_,?_,?_,?_,?_,?_⟩
 ·have:=Gp [] (uA 2 h.id) (uA 2 h.num++uA 2 c0++uA 2 c1++uA 2 c2++uA 2 c3++more) 0 J (l _);exact rO
 ·have:=Gp (uA 2 h.id) (uA 2 h.num) (uA 2 c0++uA 2 c1++uA 2 c2++uA 2 c3++more) 2 (l _) (l _);exact rO
 ·have:=Gp (uA 2 h.id++uA 2 h.num) (uA 2 c0) (uA 2 c1++uA 2 c2++uA 2 c3++more) 4 dG (l _);exact rO
 ·have:=Gp (uA 2 h.id++uA 2 h.num++uA 2 c0) (uA 2 c1) (uA 2 c2++uA 2 c3++more) 6 dG (l _);exact rO
 ·have:=Gp (uA 2 h.id++uA 2 h.num++uA 2 c0++uA 2 c1) (uA 2 c2) (uA 2 c3++more) 8 dG (l _);exact rO
 ·have:=Gp (uA 2 h.id++uA 2 h.num++uA 2 c0++uA 2 c1++uA 2 c2) (uA 2 c3) more 10 dG (l _);exact rO
theorem Cu(s y:List UInt8)(k:Nat)(n:Int):wv (s++(uA k n++y)) k s.length= .ok (vw (uA k n),s.length+k):=by
 unfold wv;have hl:=uy k n;rw[if_neg (by simp only[List.length_append,hl];omega)];have e:((s++(uA k n++y)).take (s.length+k)).drop s.length=uA k n:=by rw[<-List.append_assoc];have U:(s++uA k n).length=s.length+k:=nR;rw[<-U,List.take_left,List.drop_left]
 rw[e]
theorem aam{q:Qn}(h:qE q=0):uE q.name=0/\yo 65535 q.O=true/\yo 65535 q.N=true:=by
 unfold qE at h;by_cases U:uE q.name=0
 ·
  rw[if_neg bC]at h;by_cases X:(yo 65535 q.O&&yo 65535 q.N)=true
  ·rw[Bool.and_eq_true]at X;exact⟨U,X⟩
  ·rw[if_neg X]at h;cases h
 ·exact tG
theorem JZ(st:WS)(q:Qn)(y:List UInt8)(hT:xg st.1 st.2)(hq:qE q=0):
  wk ((wg st q).1++y) st.1.length= .ok (q,(wg st q).1.length)/\xg (wg st q).1 (wg st q).2:=by
 obtain⟨hc,U,X⟩:=aam hq;obtain⟨s,T⟩:=st;obtain⟨n,O,N⟩:=q;simp only at hT hc U X⊢;obtain⟨p1,p2,p3⟩:=BH s T n hT hc;unfold wg;simp only;generalize vh T s.length n=A at*;have hA:(s++A).length=s.length+A.length:=ap;have m0:s++A++uA 2 O++uA 2 N++y=s++A++(uA 2 O++(uA 2 N++y)):=ap;have m1:s++A++uA 2 O++uA 2 N++y=s++A++uA 2 O++(uA 2 N++y):=ap;have e0:yd (s++A++uA 2 O++uA 2 N++y) s.length= .ok (n,s.length+A.length):=by rw[m0];exact Jm (p1.Cm _) ap hc
 have e1:wv (s++A++uA 2 O++uA 2 N++y) 2 (s.length+A.length)= .ok (vw (uA 2 O),s.length+A.length+2):=by rw[m0,<-hA];exact Cu _ _ 2 O
 have hB:(s++A++uA 2 O).length=s.length+A.length+2:=mc;have e2:wv (s++A++uA 2 O++uA 2 N++y) 2 (s.length+A.length+2)= .ok (vw (uA 2 N),s.length+A.length+2+2):=by rw[m1,<-hB];exact Cu _ _ 2 N
 have hC:(s++A++uA 2 O++uA 2 N).length=s.length+A.length+2+2:=ma;refine⟨?_,(p2.Cm _).Cm _⟩;unfold wk;rw[e0];simp only;rw[e1];simp only;rw[e2];simp only;rw[zV _ U,zV _ X,hC]
theorem aan(m y:List UInt8)(a n:Nat)(O N:Int)(h:a+n<=m.length):yL (m++y) a n O N=yL m a n O N:=by
 unfold yL;rw[List.take_append_of_le_length h]
theorem Qb(st:WS)(r:RR)(hT:xg st.1 st.2)(hc:uN r=0):xg (yU st r) (zY st r):=by
 obtain⟨p1,p2,p3⟩:=BH st.1 st.2 r.name hT (Mp hc).nm;exact((p2.Cm _).Cm _).Cm _
theorem aao(st:WS)(r:RR)(x:List UInt8):((yU st r++uA 2 x.length).length:Int)=((yU st r).length:Int)+2:=by
 rw[List.length_append,uy];simp
theorem Mq(st:WS)(r:RR)(hT:xg st.1 st.2)(hw:r.wf)(hc:uN r=0):xg (uF st r).1 (uF st r).2:=by
 have U:=(Qb st r hT hc).Cm (uA 2 (zp st r).length);have X:=(OI _ _ r hw hc U).2;rw[aao]at X;exact X
theorem XX(st:WS)(r:RR)(y:List UInt8)(hT:xg st.1 st.2)(hw:r.wf)(hc:uN r=0)(hl:(zp st r).length<=65535):
  vI ((uF st r).1++y) st.1.length= .ok (r,(uF st r).1.length):=by
 have ok:=Mp hc;have U:=(Qb st r hT hc).Cm (uA 2 (zp st r).length);have X:=(OI _ _ r hw hc U).1;rw[aao]at X;change yL (yU st r++uA 2 (zp st r).length++zp st r) _ (zp st r).length _ _=_ at X;obtain⟨p1,p2,p3⟩:=BH st.1 st.2 r.name hT ok.nm;unfold uF;simp only;generalize zp st r=D at*;unfold yU at*;generalize vh st.2 st.1.length r.name=A at*;obtain⟨s,T⟩:=st;simp only at hT U X p1 p2 p3⊢;have hA:(s++A).length=s.length+A.length:=ap;have hB:(s++A++uA 2 r.O).length=s.length+A.length+2:=mc;have hC:(s++A++uA 2 r.O++uA 2 r.N).length=s.length+A.length+2+2:=ma;have hD:(s++A++uA 2 r.O++uA 2 r.N++uA 4 r.ak).length=s.length+A.length+2+2+4:=by rw[List.length_append,uy,hC]
 have hE:(s++A++uA 2 r.O++uA 2 r.N++uA 4 r.ak++uA 2 D.length).length=s.length+A.length+2+2+4+2:=by rw[List.length_append,uy,hD]
 obtain⟨ul,hM⟩:∃ul,s++A++uA 2 r.O++uA 2 r.N++uA 4 r.ak++uA 2 D.length++D++y=ul:=gG;have m0:ul=s++A++(uA 2 r.O++(uA 2 r.N++uA 4 r.ak++uA 2 D.length++D++y)):=kZ;have m1:ul=s++A++uA 2 r.O++(uA 2 r.N++(uA 4 r.ak++uA 2 D.length++D++y)):=kZ;have m2:ul=s++A++uA 2 r.O++uA 2 r.N++(uA 4 r.ak++(uA 2 D.length++D++y)):=kZ;have m3:ul=s++A++uA 2 r.O++uA 2 r.N++uA 4 r.ak++(uA 2 D.length++(D++y)):=kZ;have hMl:ul.length=s.length+A.length+2+2+4+2+D.length+y.length:=by rw[<-hM,List.length_append,List.length_append,hE]
 have e0:yd ul s.length= .ok (r.name,s.length+A.length):=by rw[m0];exact Jm (p1.Cm _) ap ok.nm
 have e1:wv ul 2 (s.length+A.length)= .ok (vw (uA 2 r.O),s.length+A.length+2):=by rw[m0,<-hA];exact Cu _ _ 2 _
 have e2:wv ul 2 (s.length+A.length+2)= .ok (vw (uA 2 r.N),s.length+A.length+2+2):=by rw[m1,<-hB];exact Cu _ _ 2 _
 have e3:wv ul 4 (s.length+A.length+2+2)= .ok (vw (uA 4 r.ak),s.length+A.length+2+2+4):=by rw[m2,<-hC];exact Cu _ _ 4 _
 have e4:wv ul 2 (s.length+A.length+2+2+4)= .ok (vw (uA 2 D.length),s.length+A.length+2+2+4+2):=by rw[m3,<-hD];exact Cu _ _ 2 _
 have hsz:vw (uA 2 D.length)=D.length:=by have:=zV (D.length:Int) (by simp[yo];omega);omega
 have e5:yL ul (s.length+A.length+2+2+4+2) D.length r.O r.N= .ok (Wq r):=by rw[<-hM,aan _ _ _ _ _ _ (by rw[List.length_append,hE];omega),<-hE];exact X
 rw[hM];unfold vI;rw[e0];simp only;rw[e1];simp only;rw[e2];simp only;rw[e3];simp only;rw[e4,hsz];simp only;rw[if_neg I,zV _ ok.O,zV _ ok.N,e5];simp only;rw[Ct _ ok.ak];simp only[Wq];rw[List.length_append,hE]
theorem aap(st:WS)(r:RR):(zp st r).length<=(uF st r).1.length:=by simp[uF];omega
theorem Ft{α:Type}(f:WS->α->WS)(g:List UInt8->Nat->Except Int (α×Nat))(ok:α->Prop)(apk:∀st x,∃abx,(f st x).1=st.1++abx)
  (an9:∀st x y,xg st.1 st.2->ok x->(f st x).1.length<=65535->g ((f st x).1++y) st.1.length= .ok (x,(f st x).1.length)/\xg (f st x).1 (f st x).2):
  ∀(l:List α) (st:WS) (y:List UInt8),xg st.1 st.2->(∀x∈l,ok x)->(l.foldl f st).1.length<=65535->
   (∃abx,(l.foldl f st).1=st.1++abx)/\vl (g ((l.foldl f st).1++y)) l.length st.1.length= .ok (l,(l.foldl f st).1.length)/\xg (l.foldl f st).1 (l.foldl f st).2
 |[],st,y,hT,_,_=>⟨⟨[],ap⟩,J,hT⟩
 |x::l,st,y,hT,hok,hl=>by
  simp only[List.foldl_cons]at hl⊢;obtain⟨z0,hz0⟩:=apk st x;have azd:∀(l:List α) (st:WS),∃abx,(l.foldl f st).1=st.1++abx:=by
   intro l;induction l with
   |nil=>intro st;exact⟨[],ap⟩
   |cons a l ih=>intro st;obtain⟨z1,U⟩:=ih (f st a);obtain⟨z2,X⟩:=apk st a;exact⟨z2++z1,by rw[List.foldl_cons,U,X,List.append_assoc]⟩
  obtain⟨z1,hz1⟩:=azd l (f st x);have hl1:(f st x).1.length<=65535:=by rw[hz1,List.length_append]at hl;omega
  obtain⟨s1,s2⟩:=an9 st x (z1++y) hT (hok x (List.mem_cons_self ..)) hl1;obtain⟨⟨abx,i1⟩,i2,i3⟩:=Ft f g ok apk an9 l (f st x) y s2 (fun a ha=>hok a (List.mem_cons_of_mem _ ha)) hl;refine⟨⟨z0++z1,by rw[hz1,hz0,List.append_assoc]⟩,?_,i3⟩;rw[List.length_cons];unfold vl;rw[<-List.append_assoc,<-hz1]at s1;rw[s1];simp only;rw[i2]
theorem aaq(st:WS)(q:Qn):∃abx,(wg st q).1=st.1++abx:=⟨vh st.2 st.1.length q.name++uA 2 q.O++uA 2 q.N,by simp[wg]⟩
theorem Hn(st:WS)(r:RR):∃abx,(uF st r).1=st.1++abx:=⟨_,by unfold uF yU;simp only[List.append_assoc];rfl⟩
theorem Mr{m:vU}(h:wH m=0):∀q∈m.qs,qE q=0:=by
 unfold wH at h;cases z:m.hd.ok with
 |false=>rw[if_pos z]at h;cases h
 |true=>
  rw[if_neg (by simp[z])]at h;by_cases U:65535<m.qs.length\/65535<m.an.length\/65535<m.au.length\/65535<m.ex.length
  ·rw[if_pos U]at h;cases h
  ·
   rw[if_neg U]at h;by_cases X:yk (m.qs.map qE)=0
   ·exact fun q hq=>F8 X _ (List.mem_map_of_mem hq)
   ·rw[if_pos X]at h;exact absurd h X
theorem OJ(m:vU)(pack:Bool):xg (xq m pack).1 (xq m pack).2:=by
  intro T e;cases pack with
  |false=>cases e
  |true=>(obtain rfl:[]=T:=by simpa[xq]using e);exact OH _
theorem Qd{m:vU}{r:RR}:r∈m.Cq↔r∈m.an\/r∈m.au\/r∈m.ex:=by simp[vU.Cq,or_assoc]
theorem S7(m:vU)(pack:Bool)(hw:∀r∈m.Cq,r.wf)(hc:wH m=0)(hl:(Eo m pack).1.length<=65535):xN (Eo m pack).1= .ok m:=by
 have ok:=PM hc;have okq:=Mr hc;rw[Wd]at hl⊢;have HQ:∀st x y,xg st.1 st.2->qE x=0->(wg st x).1.length<=65535->wk ((wg st x).1++y) st.1.length= .ok (x,(wg st x).1.length)/\xg (wg st x).1 (wg st x).2:=fun st x y U X _=>JZ st x y U X
 have HR:∀st x y,xg st.1 st.2->(x.wf/\uN x=0)->(uF st x).1.length<=65535->vI ((uF st x).1++y) st.1.length= .ok (x,(uF st x).1.length)/\xg (uF st x).1 (uF st x).2:=fun st x y U X h3=>⟨XX st x y U X.1 X.2 (Nat.le_trans (aap st x) h3),Mq st x U X.1 X.2⟩
 have okR:∀l:List RR,(∀r∈l,r∈m.Cq)->∀r∈l,r.wf/\uN r=0:=fun l h r hr=>⟨hw r (h r hr),ok.r r (h r hr)⟩
 have oka:=okR m.an (fun r h=>Qd.2 (.inl h));have oku:=okR m.au (fun r h=>Qd.2 (.inr (.inl h)));have oke:=okR m.ex (fun r h=>Qd.2 (.inr (.inr h)));have T0:=OJ m pack;have L0:=Jd m pack;have P0:(xq m pack).1=xC m.hd m.qs.length m.an.length m.au.length m.ex.length:=rfl;generalize xq m pack=s0 at*;obtain⟨s1,U⟩:∃s,m.qs.foldl wg s0=s:=gG;rw[U]at hl⊢;obtain⟨s2,X⟩:∃s,m.an.foldl uF s1=s:=gG;rw[X]at hl⊢;obtain⟨s3,h3⟩:∃s,m.au.foldl uF s2=s:=gG;rw[h3]at hl⊢;obtain⟨s4,h4⟩:∃s,m.ex.foldl uF s3=s:=gG;rw[h4]at hl⊢;have l4:=zR m.ex s3;have l3:=zR m.au s2;have l2:=zR m.an s1;have l1:=Od m.qs s0;rw[h4]at l4;rw[h3]at l3;rw[X]at l2;rw[U]at l1;have A1:=fun y=>Ft wg wk (fun q=>qE q=0) aaq HQ m.qs s0 y T0 okq (by rw[U];omega)
 simp only[U]at A1;have A2:=fun y=>Ft uF vI (fun r=>r.wf/\uN r=0) Hn HR m.an s1 y (A1 []).2.2 oka (by rw[X];omega)
 simp only[X]at A2;have A3:=fun y=>Ft uF vI (fun r=>r.wf/\uN r=0) Hn HR m.au s2 y (A2 []).2.2 oku (by rw[h3];omega)
 simp only[h3]at A3;have A4:=fun y=>Ft uF vI (fun r=>r.wf/\uN r=0) Hn HR m.ex s3 y (A3 []).2.2 oke (by rw[h4];omega)
 simp only[h4]at A4;obtain⟨z4,e4⟩:=(A4 []).1;obtain⟨z3,e3⟩:=(A3 []).1;obtain⟨z2,e2⟩:=(A2 []).1;obtain⟨z1,e1⟩:=(A1 []).1;have B4:=(A4 []).2.1;rw[List.append_nil]at B4;have B3:=(A3 z4).2.1;rw[<-e4]at B3;have B2:=(A2 (z3++z4)).2.1;rw[<-List.append_assoc,<-e3,<-e4]at B2;have B1:=(A1 (z2++(z3++z4))).2.1;rw[<-List.append_assoc,<-List.append_assoc,<-e2,<-e3,<-e4]at B1;have ul:s4.1=xC m.hd m.qs.length m.an.length m.au.length m.ex.length++(z1++z2++z3++z4):=by rw[e4,e3,e2,e1,P0];simp
 obtain⟨a0,a2,a4,a6,a8,a10⟩:=aca m.hd m.qs.length m.an.length m.au.length m.ex.length (z1++z2++z3++z4);rw[<-ul]at a0 a2 a4 a6 a8 a10;have n2:∀k:Nat,k<=65535->vw (uA 2 (k:Int))=k:=fun k z=>by have:=aak (k:Int) ⟨I,I⟩;omega
 unfold xN;rw[if_neg I,if_neg I,a0,a2,a4,a6,a8,a10,n2 _ ok.lq,n2 _ ok.la,n2 _ ok.lu,n2 _ ok.le,aal _ ok.hd,<-L0,B1];simp only;rw[B2];simp only;rw[B3];simp only;rw[B4];simp only;rw[if_neg (Nat.lt_irrefl _)]
theorem Fu(x:List UInt8)(T:Option Co)(n:List (List UInt8))(hT:xg x T)(b:Int)(hc:uE n=0):(vh T x.length n).length<=(vh none b n).length:=by
 have U:=(BH x T n hT hc).2.2;have X:=(Qa x n hc).1;show _<=(yS n).length;omega
theorem aar(s:List UInt8)(T:Option Co)(r:RR)(hc:uN r=0)(hT:xg s T)(b:Int):(yT T s.length r).length<=(yT none b r).length:=by
 have hE:=(Mp hc).has;unfold yC at hE;unfold yT;split
 ·exact Nat.le_refl _
 rename_i k1;rw[if_neg k1]at hE;split
 ·exact Nat.le_refl _
 rename_i k2;rw[if_neg k2]at hE;split
 ·rename_i k3;rw[if_pos k3]at hE;exact Fu s T r.tg hT b hE
 rename_i k3;rw[if_neg k3]at hE;split
 ·exact Nat.le_refl _
 rename_i k4;rw[if_neg k4]at hE;split
 ·
  rename_i k5;rw[if_pos k5]at hE;by_cases e1:uE r.tg=0
  ·
   rw[if_neg dE]at hE;by_cases e2:uE r.ml=0
   ·obtain⟨p1,p2,p3⟩:=BH s T r.tg hT e1;have U:=Fu s T r.tg hT b e1;have hat:((s.length:Int)+((vh T s.length r.tg).length:Int))=(((s++vh T s.length r.tg).length:Nat):Int):=ap;rw[hat];have X:=Fu _ _ r.ml p2 (b+((vh none b r.tg).length:Int)) e2;simp only[List.length_append,vL,Option.map_none]at X⊢;omega
   ·rw[if_pos e2]at hE;exact absurd hE e2
  ·rw[if_pos e1]at hE;exact absurd hE e1
 ·exact Nat.le_refl _
theorem S8:∀(l:List Qn) (st st':WS),(∀q∈l,qE q=0)->xg st.1 st.2->st'.2=none->st.1.length<=st'.1.length->xg (l.foldl wg st).1 (l.foldl wg st).2/\(l.foldl wg st').2=none/\(l.foldl wg st).1.length<=(l.foldl wg st').1.length
 |[],st,st',_,U,X,h3=>⟨U,X,h3⟩
 |q::l,st,st',hq,U,X,h3=>by
  rw[List.foldl_cons,List.foldl_cons];have q0:=hq q (List.mem_cons_self ..);refine S8 l (wg st q) (wg st' q) (fun a ha=>hq a (List.mem_cons_of_mem _ ha)) (JZ st q [] U q0).2 (by simp[wg,X,vL]) ?_;have:=Fu st.1 st.2 q.name U (st'.1.length:Int) (aam q0).1;unfold wg;simp only[List.length_append,uy,X];omega
theorem Ta:∀(l:List RR) (st st':WS),(∀r∈l,r.wf/\uN r=0)->xg st.1 st.2->st'.2=none->st.1.length<=st'.1.length->xg (l.foldl uF st).1 (l.foldl uF st).2/\(l.foldl uF st').2=none/\(l.foldl uF st).1.length<=(l.foldl uF st').1.length
 |[],st,st',_,U,X,h3=>⟨U,X,h3⟩
 |r::l,st,st',hr,U,X,h3=>by
  rw[List.foldl_cons,List.foldl_cons];obtain⟨r0,r1⟩:=hr r (List.mem_cons_self ..);have t2:zY st' r=none:=by simp[zY,X,vL]
  have tt:∀b:Int,El none b r=none:=fun b=>by unfold El;split<;>(try split)<;>simp[vL]
  refine Ta l (uF st r) (uF st' r) (fun a ha=>hr a (List.mem_cons_of_mem _ ha)) (Mq st r U r0 r1) (by show El (zY st' r) _ r=none;rw[t2];exact tt _) ?_;have a1:=Fu st.1 st.2 r.name U (st'.1.length:Int) (Mp r1).nm;have h4:=(Qb st r U r1).Cm (uA 2 (zp st r).length);have a2:=aar _ _ r r1 h4 (((yU st' r).length:Int)+2);rw[aao]at a2;have a2':(zp st r).length<=(zp st' r).length:=by unfold zp;rw[t2];exact a2
  have a3:(yU st r).length<=(yU st' r).length:=by unfold yU;simp only[List.length_append,uy,X];omega
  unfold uF;simp only[List.length_append,uy];omega
theorem acb(m:vU)(hw:∀r∈m.Cq,r.wf)(hc:wH m=0):(Eo m true).1.length<=(Eo m false).1.length:=by
 have ok:=PM hc;obtain⟨q1,q2,q3⟩:=S8 m.qs (xq m true) (xq m false) (Mr hc) (OJ m true) J (Nat.le_refl _);exact(Ta m.Cq _ _ (fun r hr=>⟨hw r hr,ok.r r hr⟩) q1 q2 q3).2.2
def ad9(a:Nat)(s:GS):Prop:=(s.behind=none->a<=s.at')/\(∀b,s.behind=some b->a<b)
theorem OL{m:List UInt8}{a:Nat}{s:GS}(h:ad9 a s):(∀s',xB m s= .go s'->ad9 a s')/\(∀l n,xB m s= .ok l n->a<n):=by
 obtain⟨at',size,bound,behind,acc⟩:=s;obtain⟨U,X⟩:=h;simp only at U X;unfold xB;simp only;constructor
 ·
  intro s' e
  repeat' split at e
  all_goals first
   |(injection e with e;subst e;cases behind with
     |none=>have:=U J;exact⟨gB,gB⟩
     |some b=>have:=X b J;exact⟨ap,gB⟩)
   |exact GO.noConfusion e
 ·
  intro l n e
  repeat' split at e
  all_goals first
   |(injection e with e1 e2;subst e2;cases behind with
     |none=>have:=U J;simp<;>omega
     |some b=>have:=X b J;simpa using this)
   |exact GO.noConfusion e
theorem aas{m:List UInt8}{a:Nat}{s:GS}{o:GO}(h:Dg m s o):ad9 a s->∀l n,o= .ok l n->a<n:=by
 induction h with
 |err e=>intro _ l n he;cases he
 |ok e=>intro hp l n he;injection he with U X;subst U X;exact(OL hp).2 _ _ e
 |go e _ ih=>intro hp;exact ih ((OL hp).1 _ e)
theorem aat{m:List UInt8}{a:Nat}{l:List (List UInt8)}{n:Nat}(h:Ch m a= .ok l n):a<n:=by
 unfold Ch at h;cases ho:Kk m a with
 |true=>rw[ho,if_pos J]at h;cases h
 |false=>rw[ho,if_neg ap,Int.toNat_natCast]at h;exact aas (Im m a) ⟨fun _=>Nat.le_refl _,fun b Z=>by cases Z⟩ _ _ h
theorem Jo{m:List UInt8}{n:List (List UInt8)}(h:yd m p= .ok (n,q)):uE n=0/\p<q/\q<=m.length:=by
 rcases Ap m p with⟨l,k,U,X,h3,h4,h5⟩|⟨e,U,X,h3⟩
 ·rw[X]at h;injection h with h;injection h with e1 e2;subst e1 e2;exact⟨KV h4 h5,aat U,h3⟩
 ·rw[X]at h;cases h
theorem Ms{m:List UInt8}{n:List (List UInt8)}(h:zC m p= .ok (n,q)):uE n=0/\p<q/\q<=m.length:=by
 unfold zC at h;cases U:yd m p with
 |error e=>rw[U]at h;cases h
 |ok y=>obtain⟨l,k⟩:=y;rw[U]at h;injection h with h;injection h with e1 e2;subst e1 e2;exact Jo U
theorem OM{m:List UInt8}{n:List (List UInt8)}(h:xF m p= .ok n):uE n=0:=by
 unfold xF at h;cases U:zC m p with
 |error e=>rw[U]at h;cases h
 |ok y=>
  obtain⟨l,k⟩:=y;rw[U]at h;simp only at h;split at h
  ·injection h with h;subst h;exact(Ms U).1
  ·cases h
theorem D8{m:List UInt8}{n:Nat}(h:wv m k p= .ok (n,q)):n<256^k/\q=p+k/\q<=m.length:=by
 unfold wv at h;split at h
 ·cases h
 ·rename_i hh;injection h with h;injection h with U X;subst U X;exact⟨Bh _ k aA,J,I⟩
theorem Ws{n:Nat}(h:n<=k):yo (k:Int) (n:Int)=true:=by simp[yo];omega
theorem U4{n:Nat}(h:n<65536):yo 65535 (n:Int)=true:=Ws (k:=65535) I
theorem afa{n:Nat}(h:n<4294967296):yo 4294967295 (n:Int)=true:=Ws (k:=4294967295) I
theorem U5{m:List UInt8}{q:Qn}(h:wk m p= .ok (q,p')):qE q=0/\p+5<=p'/\p'<=m.length:=by
 unfold wk at h;cases U:yd m p with
 |error e=>rw[U]at h;cases h
 |ok y=>
 obtain⟨n,p1⟩:=y;rw[U]at h;simp only at h;cases X:wv m 2 p1 with
 |error e=>rw[X]at h;cases h
 |ok y=>
 obtain⟨O,p2⟩:=y;rw[X]at h;simp only at h;cases h3:wv m 2 p2 with
 |error e=>rw[h3]at h;cases h
 |ok y=>
 obtain⟨N,p3⟩:=y;rw[h3]at h;simp only at h;injection h with h;injection h with e1 e2;obtain⟨a1,a2,a3⟩:=Jo U;obtain⟨b1,b2,b3⟩:=D8 X;obtain⟨c1,c2,c3⟩:=D8 h3;subst e1 e2;refine⟨?_,I,c3⟩;unfold qE;rw[if_neg (by simp[a1]),U4 b1,U4 c1];rfl
theorem acd{m:List UInt8}{a n:Nat}{O N:Int}{r:RR}(h:yL m a n O N= .ok r)(ha:a+n<=m.length)(hm:m.length<=65535)(r':RR)
  (hr:∃nm ak,uE nm=0/\yo 4294967295 ak=true/\r'={r with name:=nm,O:=O,N:=N,ak:=ak}) (hty:yo 65535 O=true) (hcl:yo 65535 N=true):uN r'=0/\r'.wf:=by
 obtain⟨nm,ak,hnm,akN,rfl⟩:=hr;have hd:((m.take (a+n)).drop a).length=n:=aA;have key:∀r0:RR,r0.O=O->r0.N=N->uE r0.name=0->yo 4294967295 r0.ak=true->yC r0=0->AU (yc r0)=true->uN r0=0:=by intro r0 e1 e2 e3 e4 e5 e6;exact ad8 ⟨e3,by rw[e1];exact hty,by rw[e2];exact hcl,e4,e5,e6⟩
 unfold yL at h;split at h
 ·
  rename_i k1;split at h
  ·
   rename_i hn;injection h with h;subst h;refine⟨key _ J J hnm akN ?_ ?_,by simp only[RR.wf,RR.zero];simp;omega⟩
   ·
    unfold yC;simp only[k1,if_true];have:(vG.check ⟨4,(m.take (a+n)).drop a++List.replicate 12 0,0⟩)=0:=by unfold vG.check;simp only[if_true];rw[if_pos ⟨by rw[<-hn];exact List.drop_left' hd,trivial⟩]
    rw[this];simp
   ·unfold yc;simp only[k1,true_or,if_true,AU,RR.zero];first|decide|rfl|simp
  ·cases h
 rename_i k1;split at h
 ·
  rename_i k2;split at h
  ·
   rename_i hn;injection h with h;subst h;refine⟨key _ J J hnm akN ?_ ?_,by simp only[RR.wf,RR.zero];simp;omega⟩
   ·
    unfold yC;simp only[k1,k2,if_true,if_false];have:(vG.check ⟨6,(m.take (a+n)).drop a,0⟩)=0:=by unfold vG.check;simp
    rw[this];simp
   ·unfold yc;simp only[k2,or_true,if_true,AU,RR.zero];first|decide|rfl|simp
  ·cases h
 rename_i k2;have k12:¬(uQ O N=1\/uQ O N=28):=I;split at h
 ·
  rename_i k3;split at h
  ·cases h
  ·
   rename_i l ht;injection h with h;subst h;refine⟨key _ J J hnm akN ?_ ?_,⟨J,J⟩⟩
   ·unfold yC;simp only[k1,k2,k3,if_true,if_false];exact OM ht
   ·unfold yc;simp only[k12,k3,if_true,if_false,AU,RR.zero];first|decide|rfl|simp
 rename_i k3;split at h
 ·
  rename_i k4;split at h
  ·cases h
  ·
   rename_i hn;split at h
   ·cases h
   ·
    rename_i l ht;injection h with h;subst h;refine⟨key _ J J hnm akN ?_ ?_,⟨J,J⟩⟩
    ·unfold yC;simp only[k1,k2,k3,k4,if_true,if_false];have e1:=U4 (Bh (((m.take (a+n)).drop a).take 2) 2 aA);have e2:=U4 (Bh ((((m.take (a+n)).drop a).drop 2).take 2) 2 aA);have e3:=U4 (Bh ((((m.take (a+n)).drop a).drop 4).take 2) 2 aA);simp only[List.all_cons,List.all_nil,e1,e2,e3,Bool.and_true,if_true];exact OM ht
    ·unfold yc;simp only[k12,k3,k4,if_true,if_false,AU,RR.zero];first|decide|rfl|simp
 rename_i k4;split at h
 ·
  rename_i k5;cases U:zC (m.take (a+n)) a with
  |error e=>rw[U]at h;cases h
  |ok y=>
  obtain⟨l,p⟩:=y;rw[U]at h;simp only at h;cases X:zC (m.take (a+n)) p with
  |error e=>rw[X]at h;cases h
  |ok y=>
  obtain⟨l',q⟩:=y;rw[X]at h;simp only at h;split at h
  ·
   injection h with h;subst h;refine⟨key _ J J hnm akN ?_ ?_,⟨J,J⟩⟩
   ·
    unfold yC;simp only[k1,k2,k3,k4,k5,if_true,if_false];have e:∀x:List UInt8,yo 4294967295 (vw (x.take 4):Int)=true:=fun x=>afa (Bh _ 4 aA)
    simp only[zL,List.all_cons,List.all_nil,e,Bool.and_true,if_true];rw[if_neg az,if_neg az,(Ms U).1,(Ms X).1];rfl
   ·unfold yc;simp only[k12,k3,k4,k5,if_true,if_false,AU,RR.zero];first|decide|rfl|simp
  ·cases h
 rename_i k5;injection h with h;subst h;refine⟨key _ J J hnm akN ?_ ?_,⟨J,J⟩⟩
 ·unfold yC;simp only[k1,k2,k3,k4,k5,if_false];rw[if_neg (by rw[hd];omega)]
 ·unfold yc;simp only[k12,k3,k4,k5,if_false,AU,RR.zero];first|decide|rfl|simp
theorem Mt{m:List UInt8}{r:RR}(hm:m.length<=65535)(h:vI m p= .ok (r,p')):(uN r=0/\r.wf)/\p+11<=p'/\p'<=m.length:=by
 unfold vI at h;cases U:yd m p with
 |error e=>rw[U]at h;cases h
 |ok y=>
 obtain⟨n,p1⟩:=y;rw[U]at h;simp only at h;cases X:wv m 2 p1 with
 |error e=>rw[X]at h;cases h
 |ok y=>
 obtain⟨O,p2⟩:=y;rw[X]at h;simp only at h;cases h3:wv m 2 p2 with
 |error e=>rw[h3]at h;cases h
 |ok y=>
 obtain⟨N,p3⟩:=y;rw[h3]at h;simp only at h;cases h4:wv m 4 p3 with
 |error e=>rw[h4]at h;cases h
 |ok y=>
 obtain⟨ak,p4⟩:=y;rw[h4]at h;simp only at h;cases h5:wv m 2 p4 with
 |error e=>rw[h5]at h;cases h
 |ok y=>
 obtain⟨sz,p5⟩:=y;rw[h5]at h;simp only at h;split at h
 ·cases h
 rename_i hsz;cases h6:yL m p5 sz O N with
 |error e=>rw[h6]at h;cases h
 |ok r0=>
 rw[h6]at h;simp only at h;injection h with h;injection h with e1 e2;obtain⟨a1,a2,a3⟩:=Jo U;obtain⟨b1,b2,b3⟩:=D8 X;obtain⟨c1,c2,c3⟩:=D8 h3;obtain⟨d1,d2,d3⟩:=D8 h4;obtain⟨f1,f2,f3⟩:=D8 h5;refine⟨acd h6 I hm r ⟨n,ak,a1,afa d1,e1.symm⟩ (U4 b1) (U4 c1),I,I⟩
theorem IF{α:Type}{g:Nat->Except Int (α×Nat)}{P:α->Prop}{c len:Nat}(hg:∀p x p',g p= .ok (x,p')->P x/\p+c<=p'/\p'<=len):
  ∀(k p:Nat) (l:List α) (p':Nat),vl g k p= .ok (l,p')->p<=len->(∀x∈l,P x)/\l.length=k/\p+c*k<=p'/\p'<=len
 |0,p,l,p',h,hp=>by
  unfold vl at h;injection h with h;injection h with e1 e2;subst e1 e2;exact⟨(fun x hx=>by cases hx),J,I,hp⟩
 |k+1,p,l,p',h,hp=>by
  unfold vl at h;cases U:g p with
  |error e=>rw[U]at h;cases h
  |ok y=>
  obtain⟨x,p1⟩:=y;rw[U]at h;simp only at h;cases X:vl g k p1 with
  |error e=>rw[X]at h;cases h
  |ok y=>
  obtain⟨l1,p2⟩:=y;rw[X]at h;simp only at h;injection h with h;injection h with e1 e2;obtain⟨a1,a2,a3⟩:=hg _ _ _ U;obtain⟨b1,b2,b3,b4⟩:=IF hg k p1 l1 p2 X a3;subst e1 e2;refine⟨fun y hy=>?_,by simp[b2],by rw[Nat.mul_succ];omega,b4⟩;rcases List.mem_cons.1 hy with rfl|hy
  ·exact a1
  ·exact b1 y hy
theorem ace(a b:Nat)(ha:a<65536)(Z:b<65536):(ES a b).ok=true:=by
 rw[Jn];simp only[ES];omega
theorem acf{s:List UInt8}{m:vU}(h:xN s= .ok m):wH m=0/\(∀r∈m.Cq,r.wf)/\12+5*m.qs.length+11*m.Cq.length<=s.length/\s.length<=65535:=by
 unfold xN at h;split at h
 ·cases h
 rename_i hl;split at h
 ·cases h
 rename_i hs;cases U:vl (wk s) (yq s 4) 12 with
 |error e=>rw[U]at h;cases h
 |ok y=>
 obtain⟨q,p1⟩:=y;rw[U]at h;simp only at h;cases X:vl (vI s) (yq s 6) p1 with
 |error e=>rw[X]at h;cases h
 |ok y=>
 obtain⟨a,p2⟩:=y;rw[X]at h;simp only at h;cases h3:vl (vI s) (yq s 8) p2 with
 |error e=>rw[h3]at h;cases h
 |ok y=>
 obtain⟨u,p3⟩:=y;rw[h3]at h;simp only at h;cases h4:vl (vI s) (yq s 10) p3 with
 |error e=>rw[h4]at h;cases h
 |ok y=>
 obtain⟨x,p4⟩:=y;rw[h4]at h;simp only at h;split at h
 ·cases h
 injection h with h;have q0:=zu s 4;have q1:=zu s 6;have q2:=zu s 8;have q3:=zu s 10;have hq:=ace _ _ (zu s 0) (zu s 2);obtain⟨a1,a2,a3,a4⟩:=IF (fun p x p' h=>U5 (m:=s) h) _ _ _ _ U I;obtain⟨b1,b2,b3,b4⟩:=IF (fun p x p' h=>Mt (m:=s) I h) _ _ _ _ X a4;obtain⟨c1,c2,c3,c4⟩:=IF (fun p x p' h=>Mt (m:=s) I h) _ _ _ _ h3 b4;obtain⟨d1,d2,d3,d4⟩:=IF (fun p x p' h=>Mt (m:=s) I h) _ _ _ _ h4 c4;have hr:∀r∈a++u++x,uN r=0/\r.wf:=by
  intro r hr;simp only[List.mem_append]at hr;rcases hr with(hr|hr)|hr
  ·exact b1 r hr
  ·exact c1 r hr
  ·exact d1 r hr
 subst h;refine⟨?_,fun r hr'=>(hr r hr').2,?_,I⟩
 ·unfold wH;simp only[hq];rw[if_neg ap,if_neg I];have e1:yk (q.map qE)=0:=PJ (fun j hj=>by rw[List.getElem_map];exact a1 _ (List.getElem_mem _));have e2:yk ((a++u++x).map uN)=0:=PJ (fun j hj=>by rw[List.getElem_map];exact(hr _ (List.getElem_mem _)).1);rw[if_neg dE];exact e2
 ·simp only[vU.Cq,List.length_append];omega
end Go.Proofs.YthnbcmlnpdabhaaGreat
