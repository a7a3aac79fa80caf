/-
  Layer 12 (packed),the plain law of PackedBack:what is put,one behind the other,is got.
-/
import Derived.Test.YthnbcmlnpdabhaaGreatHAz
namespace Go.Proofs.YthnbcmlnpdabhaaGreat
open _root_.Go.Proofs.Tryz
set_option linter.unusedVariables false
variable {p q k p':Nat}
theorem Zq(x:List UInt8)(T:List (List (List UInt8)×Nat))(hT:Em x T)(n:List (List UInt8))(hc:tY n=0):
  (∃a,It T x.length n=a/\a.length<=uQ n+1/\Rd (x++a) x.length x.length n (x.length+a.length))/\Em (x++It T x.length n) (JH T x.length n):=by
 obtain⟨hg,hs⟩:=wK hc;obtain⟨⟨a,U,X,h3,h4⟩,h5⟩:=acJ T x hT n [] hg;unfold It JH;rw[if_pos hc,if_pos hc];refine⟨⟨_,J,?_,?_⟩,?_⟩
 ·rw[U];simpa using X
 ·have:=h4 x.length (Nat.le_refl _);rw[U];simpa using this
 ·
  intro r hr;rcases List.mem_append.1 hr with h|h
  ·exact hT.CY _ r h
  ·exact h5 r h
theorem NV(x:List UInt8):Em x []:=by intro r hr;cases hr
theorem Pu(x:List UInt8)(n:List (List UInt8))(hc:tY n=0):(yw n).length=uQ n+1/\Rd (x++yw n) x.length x.length n (x.length+(yw n).length):=by
 have e:It [] x.length n=yw n:=by unfold It yw OL;rw[if_pos hc,if_pos hc,Ye];simp
 obtain⟨⟨a,U,X,h3⟩,_⟩:=Zq x [] (NV x) n hc;rw[e]at U;subst U;refine⟨?_,h3⟩;unfold yw OL;rw[if_pos hc,List.length_append,vK];rfl
set_option linter.unusedSimpArgs false
set_option maxRecDepth 10000
def wG(m:List UInt8)(T:Option Bp):Prop:=∀T',T=some T'->Em m T'
theorem wG.CY{m:List UInt8}{T:Option Bp}(h:wG m T)(y:List UInt8):wG (m++y) T:=fun T' e=>(h T' e).CY y
theorem AJ(x:List UInt8)(T:Option Bp)(n:List (List UInt8))(hT:wG x T)(hc:tY n=0):
  Rd (x++uE T x.length n) x.length x.length n (x.length+(uE T x.length n).length)/\wG (x++uE T x.length n) (vf T x.length n)/\(uE T x.length n).length<=uQ n+1:=by
 cases T with
 |none=>obtain⟨U,X⟩:=Pu x n hc;exact⟨X,fun T' e=>(by cases e),(by show(yw n).length<=_;omega)⟩
 |some T=>obtain⟨⟨a,U,X,h3⟩,h4⟩:=Zq x T (hT T J) n hc;subst U;exact⟨h3,fun T' e=>(by cases e;exact h4),X⟩
theorem IJ{m:List UInt8}{n:List (List UInt8)}{e:Nat}(h:Rd m p p n e)(hp:p<=m.length)(hc:tY n=0):xF m p= .ok (n,e):=by
 unfold xF;rw[aa1 h hp (wK hc).2]
theorem Hz{m:List UInt8}{n:List (List UInt8)}{e:Nat}(h:Rd m p p n e)(hp:p<=m.length)(hc:tY n=0):y6 m p= .ok (n,e):=by
 unfold y6;rw[IJ h hp hc]
theorem zx(n:Int)(h:xN 65535 n=true):((uN (tT 2 n):Nat):Int)=n:=by
 have X:=Ir 2 n;exact rO
theorem BL(n:Int)(h:xN 4294967295 n=true):((uN (tT 4 n):Nat):Int)=n:=by
 have X:=Ir 4 n;exact rO
def Vt(r:RR):RR:={r with name:=[],E:=0,N:=0,ak:=0}
structure ROk (r:RR):Prop where
 nm:tY r.name=0
 E:xN 65535 r.E=true
 N:xN 65535 r.N=true
 ak:xN 4294967295 r.ak=true
 has:yd r=0
 bare:zW (xE r)=true
theorem Lq{r:RR}(h:uk r=0):ROk r:=by
 unfold uk at h;by_cases U:tY r.name=0
 ·
  rw[if_neg bC]at h;by_cases X:¬([r.E,r.N].all (xN 65535))=true\/¬xN 4294967295 r.ak=true
  ·rw[if_pos X]at h;cases h
  ·
   rw[if_neg X]at h;by_cases h3:yd r=0
   ·
    rw[if_neg (by simp[h3])]at h;by_cases h4:zW (xE r)=true
    ·simp only[not_or,Classical.not_not,List.all_cons,List.all_nil,Bool.and_true,Bool.and_eq_true]at X;exact⟨U,X.1.1,X.1.2,X.2,h3,h4⟩
    ·rw[if_neg h4]at h;cases h
   ·rw[if_pos h3]at h;exact absurd h h3
 ·exact sX
theorem adf{r:RR}(h:ROk r):uk r=0:=by
 unfold uk;rw[if_neg (by simp[h.nm]),if_neg (by simp[h.E,h.N,h.ak]),if_neg (by simp[h.has]),if_pos h.bare]
theorem Dr{r:RR}:zW r=true↔r.ad=uV.zero/\r.tg=[]/\r.ml=[]/\r.pri=0/\r.we=0/\r.po=0/\r.h1=[0,0,0,0,0]/\r.raw=[]:=by
 simp[zW,and_assoc]
theorem yT(s d:List UInt8):(s++d).take (s.length+d.length)=s++d:=List.take_of_length_le ap
theorem NW(s:List UInt8)(T:Option Bp)(r:RR)(hw:r.wf)(hc:uk r=0)(hT:wG s T):
  yn (s++yx T s.length r) s.length (yx T s.length r).length r.E r.N= .ok (Vt r)/\wG (s++yx T s.length r) (DG T s.length r):=by
 have ok:=Lq hc;have hE:=ok.has;have hB:=ok.bare;obtain⟨name,E,N,ak,ad,tg,ml,pri,we,po,h1,raw⟩:=r;have hw1:ad.ip.length=16:=hw.1;have hw2:h1.length=5:=hw.2;unfold yn yx DG;unfold yd at hE;unfold xE at hB;simp only at hE hB⊢;rcases zr E N with h|h|h|h|h|h
 ·
  --A
  simp only[h]at hE hB⊢;simp only[if_true,true_or,show ¬((1:Int)=28)by decide,show ¬((1:Int)=5)by decide,show ¬((1:Int)=12)by decide,show ¬((1:Int)=6)by decide,or_self,if_false]at hE hB⊢;obtain⟨b1,b2,b3,b4,b5,b6,b7,b8⟩:=Dr.1 hB;simp only at b1 b2 b3 b4 b5 b6 b7 b8;have hd:(ad.ip.take 4).length=4:=by simp[hw1]
  refine⟨?_,hT.CY _⟩;rw[if_pos hd,yT,List.drop_left];split at hE
  ·cases hE
  ·
   rename_i hn;simp only[not_or,Classical.not_not]at hn;obtain⟨n1,n2,n3⟩:=hn;have n4:ad.ip.drop 4=List.replicate 12 0:=by
    unfold uV.check at n1;rw[if_pos n2]at n1;split at n1
    ·rename_i hh;exact hh.1
    ·cases n1
   have e:ad=⟨4,ad.ip.take 4++List.replicate 12 0,0⟩:=by rw[<-n4,List.take_append_drop,<-n2,<-n3]
   exact sZ
 ·
  --aLi
  simp only[h]at hE hB⊢;simp only[if_true,or_true,show ¬((28:Int)=1)by decide,show ¬((28:Int)=5)by decide,show ¬((28:Int)=12)by decide,show ¬((28:Int)=6)by decide,or_self,if_false]at hE hB⊢;obtain⟨b1,b2,b3,b4,b5,b6,b7,b8⟩:=Dr.1 hB;simp only at b1 b2 b3 b4 b5 b6 b7 b8;refine⟨?_,hT.CY _⟩;rw[if_pos hw1,yT,List.drop_left];split at hE
  ·cases hE
  ·
   rename_i hn;simp only[not_or,Classical.not_not]at hn;obtain⟨n1,n2,n3⟩:=hn;have e:ad=⟨6,ad.ip,0⟩:=by rw[<-n2,<-n3]
   exact sZ
 ·
  --names
  have U:¬uo E N=1:=nA;have X:¬uo E N=28:=nA;have h12:¬(uo E N=1\/uo E N=28):=I;rw[if_neg U,if_neg X,if_pos h]at hE;rw[if_neg h12,if_pos h]at hB;rw[if_neg U,if_neg X,if_pos h,if_neg U,if_neg X,if_pos h,if_pos h];obtain⟨b1,b2,b3,b4,b5,b6,b7,b8⟩:=Dr.1 hB;simp only at b1 b2 b3 b4 b5 b6 b7 b8;obtain⟨p1,p2,p3⟩:=AJ s T tg hT hE;refine⟨?_,p2⟩;rw[yT];unfold wY;rw[Hz p1 ap hE];simp only;rw[if_pos ap];subst b1 b3 b4 b5 b6 b7 b8;rfl
 ·
  --SRV
  simp only[h]at hE hB⊢;simp only[if_true,show ¬((33:Int)=1)by decide,show ¬((33:Int)=28)by decide,show ¬((33:Int)=5)by decide,show ¬((33:Int)=12)by decide,show ¬((33:Int)=6)by decide,or_self,if_false]at hE hB⊢;obtain⟨b1,b2,b3,b4,b5,b6,b7,b8⟩:=Dr.1 hB;simp only at b1 b2 b3 b4 b5 b6 b7 b8;split at hE
  ·
   rename_i hn;simp only[List.all_cons,List.all_nil,Bool.and_true,Bool.and_eq_true]at hn;obtain⟨n1,n2,n3⟩:=hn;refine⟨?_,hT.CY _⟩;obtain⟨z1,z2⟩:=Pu (s++(tT 2 pri++tT 2 we++tT 2 po)) tg hE;have hl6:(tT 2 pri++tT 2 we++tT 2 po).length=6:=by simp[tR]
   have hl:(s++(tT 2 pri++tT 2 we++tT 2 po)).length=s.length+6:=by rw[List.length_append,hl6]
   rw[if_neg dC,yT];rw[hl,List.append_assoc]at z2;unfold wY;rw[Hz z2 dC hE];simp only;rw[if_pos dC,List.drop_left];have t1:(tT 2 pri++tT 2 we++tT 2 po++yw tg).take 2=tT 2 pri:=by rw[List.append_assoc,List.append_assoc];exact List.take_left' (tR 2 _)
   have d2:(tT 2 pri++tT 2 we++tT 2 po++yw tg).drop 2=tT 2 we++(tT 2 po++yw tg):=by rw[List.append_assoc,List.append_assoc];exact List.drop_left' (tR 2 _)
   have d4:(tT 2 pri++tT 2 we++tT 2 po++yw tg).drop 4=tT 2 po++yw tg:=by rw[show(4:Nat)=2+2 from J,<-List.drop_drop,d2];exact List.drop_left' (tR 2 _)
   rw[t1,d2,d4,List.take_left' (tR 2 _),List.take_left' (tR 2 _),zx _ n1,zx _ n2,zx _ n3];subst b1 b3 b7 b8;rfl
  ·cases hE
 ·
  --SOA
  simp only[h]at hE hB⊢;simp only[if_true,show ¬((6:Int)=1)by decide,show ¬((6:Int)=28)by decide,show ¬((6:Int)=5)by decide,show ¬((6:Int)=12)by decide,show ¬((6:Int)=33)by decide,or_self,if_false]at hE hB⊢;obtain⟨b1,b2,b3,b4,b5,b6,b7,b8⟩:=Dr.1 hB;simp only at b1 b2 b3 b4 b5 b6 b7 b8;by_cases e1:tY tg=0
  ·
   rw[if_neg dD]at hE;by_cases e2:tY ml=0
   ·
    rw[if_neg (by simp[e2])]at hE;split at hE
    ·
     rename_i hn;obtain⟨p1,p2,p3⟩:=AJ s T tg hT e1;obtain⟨A,hA⟩:∃A,A=uE T s.length tg:=gp;rw[<-hA]at p1 p2 p3⊢;have hat:((s.length:Int)+(A.length:Int))=(((s++A).length:Nat):Int):=ap;rw[hat];obtain⟨q1,q2,q3⟩:=AJ (s++A) (vf T s.length tg) ml p2 e2;obtain⟨B,hB'⟩:∃B,B=uE (vf T s.length tg) ((s++A).length:Nat) ml:=gp;rw[<-hB']at q1 q2 q3⊢;obtain⟨tM,hN⟩:∃tM,tM=h1.flatMap (tT 4):=gp;rw[<-hN];have hNl:tM.length=20:=by
      rw[hN];match h1,hw2 with
      |[x0,x1,x2,x3,x4],_=>simp[tR]
     have hm:s++(A++B++tM)=s++A++B++tM:=ap;refine⟨?_,by rw[hm];exact q2.CY _⟩;rw[yT,hm];have p1':Rd (s++A++B++tM) s.length s.length tg (s.length+A.length):=(p1.CY B).CY tM;have q1':Rd (s++A++B++tM) (s++A).length (s++A).length ml ((s++A).length+B.length):=q1.CY tM;rw[Hz p1' dE e1];simp only;rw[show s.length+A.length=(s++A).length by simp,Hz q1' dE e2];simp only;rw[if_pos (by simp only[List.length_append,hNl])];have awL:zh (s++A++B++tM) ((s++A).length+B.length)=h1:=by
      have hd:(s++A++B++tM).drop ((s++A).length+B.length)=tM:=by rw[<-List.length_append,List.drop_left]
      unfold zh;simp only[<-List.drop_drop,hd];match h1,hw2,hN,hn with
      |[x0,x1,x2,x3,x4],_,hN,hn=>
       simp only[List.all_cons,List.all_nil,Bool.and_true,Bool.and_eq_true]at hn;obtain⟨n0,n1,n2,n3,n4⟩:=hn;have hN':tM=tT 4 x0++(tT 4 x1++(tT 4 x2++(tT 4 x3++(tT 4 x4)))):=by rw[hN];simp
       have f1:tM.drop 4=tT 4 x1++(tT 4 x2++(tT 4 x3++(tT 4 x4))):=by rw[hN'];exact List.drop_left' (tR 4 _)
       have f2:tM.drop 8=tT 4 x2++(tT 4 x3++(tT 4 x4)):=by rw[show(8:Nat)=4+4 from J,<-List.drop_drop,f1];exact List.drop_left' (tR 4 _)
       have f3:tM.drop 12=tT 4 x3++(tT 4 x4):=by rw[show(12:Nat)=8+4 from J,<-List.drop_drop,f2];exact List.drop_left' (tR 4 _)
       have f4:tM.drop 16=tT 4 x4:=by rw[show(16:Nat)=12+4 from J,<-List.drop_drop,f3];exact List.drop_left' (tR 4 _)
       have g0:tM.take 4=tT 4 x0:=by rw[hN'];exact List.take_left' (tR 4 _)
       rw[f1,f2,f3,f4,g0,List.take_left' (tR 4 _),List.take_left' (tR 4 _),List.take_left' (tR 4 _),List.take_of_length_le (by rw[tR];omega),BL _ n0,BL _ n1,BL _ n2,BL _ n3,BL _ n4]
     rw[awL];subst b1 b4 b5 b6 b8;rfl
    ·cases hE
   ·rw[if_pos e2]at hE;exact absurd hE e2
  ·rw[if_pos e1]at hE;exact absurd hE e1
 ·
  --av5
  simp only[h]at hE hB⊢;simp only[if_true,show ¬((0:Int)=1)by decide,show ¬((0:Int)=28)by decide,show ¬((0:Int)=5)by decide,show ¬((0:Int)=12)by decide,show ¬((0:Int)=33)by decide,show ¬((0:Int)=6)by decide,or_self,if_false]at hE hB⊢;obtain⟨b1,b2,b3,b4,b5,b6,b7,b8⟩:=Dr.1 hB;simp only at b1 b2 b3 b4 b5 b6 b7 b8;refine⟨?_,hT.CY _⟩;rw[yT,List.drop_left];subst b1 b2 b3 b4 b5 b6 b7;rfl
open Go.RowKit
set_option maxRecDepth 100000
theorem GD(b:Bool)(n:Int):∃x:Int,wN b n=n*x/\0<=x/\x<=1/\(x==1)=b:=by
 cases b
 ·exact⟨0,by simp[wN],I,I,J⟩
 ·exact⟨1,by simp[wN],I,I,J⟩
theorem IK(h:Hd):h.ok=true↔(0<=h.id/\h.id<=65535)/\(0<=h.op/\h.op<=15)/\(0<=h.rc/\h.rc<=15):=by simp[Hd.ok,and_assoc]
theorem WR(h:Hd)(O:h.ok=true):0<=h.num/\h.num<=65535:=by
 obtain⟨_,⟨o0,o1⟩,⟨r0,r1⟩⟩:=(IK h).1 O;have a:=uK h.qr 32768 ax;have b:=uK h.aa 1024 ax;have c:=uK h.tc 512 ax;have d:=uK h.rd 256 ax;have e:=uK h.ra 128 ax;have f:=uK h.ad 32 ax;have g:=uK h.cd 16 ax;unfold Hd.num;omega
theorem Zr(n:Int)(h:0<=n/\n<=65535):(uN (tT 2 n):Int)=n:=by
 rw[Ir];have:((256^2:Nat):Int)=65536:=rfl;rw[this];omega
theorem Zs(h:Hd)(O:h.ok=true):Eg (uN (tT 2 h.id)) (uN (tT 2 h.num))=h:=by
 have hn:=Zr h.num (WR h O);obtain⟨hi,⟨o0,o1⟩,⟨r0,r1⟩⟩:=(IK h).1 O;have hid:=Zr h.id hi;generalize uN (tT 2 h.num)=tM at*;generalize uN (tT 2 h.id)=aMR at*;obtain⟨id,qr,op,aa,tc,rd,ra,ad,cd,rc⟩:=h;simp only[Hd.num]at*;obtain⟨x1,e1,p1,q1,rfl⟩:=GD qr 32768;obtain⟨x2,e2,p2,q2,rfl⟩:=GD aa 1024;obtain⟨x3,e3,p3,q3,rfl⟩:=GD tc 512;obtain⟨x4,e4,p4,q4,rfl⟩:=GD rd 256;obtain⟨x5,e5,p5,q5,rfl⟩:=GD ra 128;obtain⟨x6,e6,p6,q6,rfl⟩:=GD ad 32;obtain⟨x7,e7,p7,q7,rfl⟩:=GD cd 16;rw[e1,e2,e3,e4,e5,e6,e7]at hn;have key:∀(k:Nat) (x:Int),(0<=x/\x<=1)->(tM:Int)/(k:Int)%2=x->zZ tM k=(x==1):=by intro k x hx he;rw[<-Jm,he]
 simp only[Eg,Hd.mk.injEq];refine⟨hid,key 32768 x1 ⟨p1,q1⟩ ?_,?_,key 1024 x2 ⟨p2,q2⟩ ?_,key 512 x3 ⟨p3,q3⟩ ?_,key 256 x4 ⟨p4,q4⟩ ?_,key 128 x5 ⟨p5,q5⟩ ?_,key 32 x6 ⟨p6,q6⟩ ?_,key 16 x7 ⟨p7,q7⟩ ?_,?_⟩;all_goals omega
theorem Fs(a b c:List UInt8)(k:Nat)(ha:a.length=k)(F:b.length=2):xO (a++(b++c)) k=uN b:=by
 subst ha;unfold xO;rw[List.drop_left,<-F,List.take_left]
theorem abl(h:Hd)(c0 c1 c2 c3:Int)(more:List UInt8):xO (wW h c0 c1 c2 c3++more) 0=uN (tT 2 h.id)/\xO (wW h c0 c1 c2 c3++more) 2=uN (tT 2 h.num)/\xO (wW h c0 c1 c2 c3++more) 4=uN (tT 2 c0)/\
  xO (wW h c0 c1 c2 c3++more) 6=uN (tT 2 c1)/\xO (wW h c0 c1 c2 c3++more) 8=uN (tT 2 c2)/\xO (wW h c0 c1 c2 c3++more) 10=uN (tT 2 c3):=by
 have l:=tR 2;unfold wW;refine⟨?_,?_,?_,?_,?_,?_⟩
 ·have:=Fs [] (tT 2 h.id) (tT 2 h.num++tT 2 c0++tT 2 c1++tT 2 c2++tT 2 c3++more) 0 J (l _);exact rh
 ·have:=Fs (tT 2 h.id) (tT 2 h.num) (tT 2 c0++tT 2 c1++tT 2 c2++tT 2 c3++more) 2 (l _) (l _);exact rh
 ·have:=Fs (tT 2 h.id++tT 2 h.num) (tT 2 c0) (tT 2 c1++tT 2 c2++tT 2 c3++more) 4 dF (l _);exact rh
 ·have:=Fs (tT 2 h.id++tT 2 h.num++tT 2 c0) (tT 2 c1) (tT 2 c2++tT 2 c3++more) 6 dF (l _);exact rh
 ·have:=Fs (tT 2 h.id++tT 2 h.num++tT 2 c0++tT 2 c1) (tT 2 c2) (tT 2 c3++more) 8 dF (l _);exact rh
 ·have:=Fs (tT 2 h.id++tT 2 h.num++tT 2 c0++tT 2 c1++tT 2 c2) (tT 2 c3) more 10 dF (l _);exact rh
theorem BP(s y:List UInt8)(k:Nat)(n:Int):vH (s++(tT k n++y)) k s.length= .ok (uN (tT k n),s.length+k):=by
 unfold vH;have hl:=tR k n;rw[if_neg (by simp only[List.length_append,hl];omega)];have e:((s++(tT k n++y)).take (s.length+k)).drop s.length=tT k n:=by rw[<-List.append_assoc];have U:(s++tT k n).length=s.length+k:=np;rw[<-U,List.take_left,List.drop_left]
 rw[e]
theorem Zt{q:Qn}(h:qE q=0):tY q.name=0/\xN 65535 q.E=true/\xN 65535 q.N=true:=by
 unfold qE at h;by_cases U:tY q.name=0
 ·
  rw[if_neg bC]at h;by_cases X:(xN 65535 q.E&&xN 65535 q.N)=true
  ·rw[Bool.and_eq_true]at X;exact⟨U,X⟩
  ·rw[if_neg X]at h;cases h
 ·exact sX
theorem Ju(st:WS)(q:Qn)(y:List UInt8)(hT:wG st.1 st.2)(hq:qE q=0):
  vE ((vC st q).1++y) st.1.length= .ok (q,(vC st q).1.length)/\wG (vC st q).1 (vC st q).2:=by
 obtain⟨hc,U,X⟩:=Zt hq;obtain⟨s,T⟩:=st;obtain⟨n,E,N⟩:=q;simp only at hT hc U X⊢;obtain⟨p1,p2,p3⟩:=AJ s T n hT hc;unfold vC;simp only;generalize uE T s.length n=A at*;have hA:(s++A).length=s.length+A.length:=ap;have m0:s++A++tT 2 E++tT 2 N++y=s++A++(tT 2 E++(tT 2 N++y)):=ap;have m1:s++A++tT 2 E++tT 2 N++y=s++A++tT 2 E++(tT 2 N++y):=ap;have e0:xF (s++A++tT 2 E++tT 2 N++y) s.length= .ok (n,s.length+A.length):=by rw[m0];exact IJ (p1.CY _) ap hc
 have e1:vH (s++A++tT 2 E++tT 2 N++y) 2 (s.length+A.length)= .ok (uN (tT 2 E),s.length+A.length+2):=by rw[m0,<-hA];exact BP _ _ 2 E
 have hB:(s++A++tT 2 E).length=s.length+A.length+2:=lQ;have e2:vH (s++A++tT 2 E++tT 2 N++y) 2 (s.length+A.length+2)= .ok (uN (tT 2 N),s.length+A.length+2+2):=by rw[m1,<-hB];exact BP _ _ 2 N
 have hC:(s++A++tT 2 E++tT 2 N).length=s.length+A.length+2+2:=lP;refine⟨?_,(p2.CY _).CY _⟩;unfold vE;rw[e0];simp only;rw[e1];simp only;rw[e2];simp only;rw[zx _ U,zx _ X,hC]
theorem Zu(m y:List UInt8)(a n:Nat)(E N:Int)(h:a+n<=m.length):yn (m++y) a n E N=yn m a n E N:=by
 unfold yn;rw[List.take_append_of_le_length h]
theorem Pv(st:WS)(r:RR)(hT:wG st.1 st.2)(hc:uk r=0):wG (yz st r) (zA st r):=by
 obtain⟨p1,p2,p3⟩:=AJ st.1 st.2 r.name hT (Lq hc).nm;exact((p2.CY _).CY _).CY _
theorem Zv(st:WS)(r:RR)(x:List UInt8):((yz st r++tT 2 x.length).length:Int)=((yz st r).length:Int)+2:=by
 rw[List.length_append,tR];simp
theorem Lr(st:WS)(r:RR)(hT:wG st.1 st.2)(hw:r.wf)(hc:uk r=0):wG (tZ st r).1 (tZ st r).2:=by
 have U:=(Pv st r hT hc).CY (tT 2 (yR st r).length);have X:=(NW _ _ r hw hc U).2;rw[Zv]at X;exact X
theorem WT(st:WS)(r:RR)(y:List UInt8)(hT:wG st.1 st.2)(hw:r.wf)(hc:uk r=0)(hl:(yR st r).length<=65535):
  uY ((tZ st r).1++y) st.1.length= .ok (r,(tZ st r).1.length):=by
 have ok:=Lq hc;have U:=(Pv st r hT hc).CY (tT 2 (yR st r).length);have X:=(NW _ _ r hw hc U).1;rw[Zv]at X;change yn (yz st r++tT 2 (yR st r).length++yR st r) _ (yR st r).length _ _=_ at X;obtain⟨p1,p2,p3⟩:=AJ st.1 st.2 r.name hT ok.nm;unfold tZ;simp only;generalize yR st r=D at*;unfold yz at*;generalize uE st.2 st.1.length r.name=A at*;obtain⟨s,T⟩:=st;simp only at hT U X p1 p2 p3⊢;have hA:(s++A).length=s.length+A.length:=ap;have hB:(s++A++tT 2 r.E).length=s.length+A.length+2:=lQ;have hC:(s++A++tT 2 r.E++tT 2 r.N).length=s.length+A.length+2+2:=lP;have hD:(s++A++tT 2 r.E++tT 2 r.N++tT 4 r.ak).length=s.length+A.length+2+2+4:=by rw[List.length_append,tR,hC]
 have hE:(s++A++tT 2 r.E++tT 2 r.N++tT 4 r.ak++tT 2 D.length).length=s.length+A.length+2+2+4+2:=by rw[List.length_append,tR,hD]
 obtain⟨h2,hM⟩:∃h2,s++A++tT 2 r.E++tT 2 r.N++tT 4 r.ak++tT 2 D.length++D++y=h2:=gp;have m0:h2=s++A++(tT 2 r.E++(tT 2 r.N++tT 4 r.ak++tT 2 D.length++D++y)):=kH;have m1:h2=s++A++tT 2 r.E++(tT 2 r.N++(tT 4 r.ak++tT 2 D.length++D++y)):=kH;have m2:h2=s++A++tT 2 r.E++tT 2 r.N++(tT 4 r.ak++(tT 2 D.length++D++y)):=kH;have m3:h2=s++A++tT 2 r.E++tT 2 r.N++tT 4 r.ak++(tT 2 D.length++(D++y)):=kH;have hMl:h2.length=s.length+A.length+2+2+4+2+D.length+y.length:=by rw[<-hM,List.length_append,List.length_append,hE]
 have e0:xF h2 s.length= .ok (r.name,s.length+A.length):=by rw[m0];exact IJ (p1.CY _) ap ok.nm
 have e1:vH h2 2 (s.length+A.length)= .ok (uN (tT 2 r.E),s.length+A.length+2):=by rw[m0,<-hA];exact BP _ _ 2 _
 have e2:vH h2 2 (s.length+A.length+2)= .ok (uN (tT 2 r.N),s.length+A.length+2+2):=by rw[m1,<-hB];exact BP _ _ 2 _
 have e3:vH h2 4 (s.length+A.length+2+2)= .ok (uN (tT 4 r.ak),s.length+A.length+2+2+4):=by rw[m2,<-hC];exact BP _ _ 4 _
 have e4:vH h2 2 (s.length+A.length+2+2+4)= .ok (uN (tT 2 D.length),s.length+A.length+2+2+4+2):=by rw[m3,<-hD];exact BP _ _ 2 _
 have hsz:uN (tT 2 D.length)=D.length:=by have:=zx (D.length:Int) (by simp[xN];omega);omega
 have e5:yn h2 (s.length+A.length+2+2+4+2) D.length r.E r.N= .ok (Vt r):=by rw[<-hM,Zu _ _ _ _ _ _ (by rw[List.length_append,hE];omega),<-hE];exact X
 rw[hM];unfold uY;rw[e0];simp only;rw[e1];simp only;rw[e2];simp only;rw[e3];simp only;rw[e4,hsz];simp only;rw[if_neg I,zx _ ok.E,zx _ ok.N,e5];simp only;rw[BL _ ok.ak];simp only[Vt];rw[List.length_append,hE]
theorem Zw(st:WS)(r:RR):(yR st r).length<=(tZ st r).1.length:=by simp[tZ];omega
theorem EG{α:Type}(f:WS->α->WS)(g:List UInt8->Nat->Except Int (α×Nat))(ok:α->Prop)(aos:∀st x,∃acZ,(f st x).1=st.1++acZ)
  (anj:∀st x y,wG st.1 st.2->ok x->(f st x).1.length<=65535->g ((f st x).1++y) st.1.length= .ok (x,(f st x).1.length)/\wG (f st x).1 (f st x).2):
  ∀(l:List α) (st:WS) (y:List UInt8),wG st.1 st.2->(∀x∈l,ok x)->(l.foldl f st).1.length<=65535->
   (∃acZ,(l.foldl f st).1=st.1++acZ)/\uJ (g ((l.foldl f st).1++y)) l.length st.1.length= .ok (l,(l.foldl f st).1.length)/\wG (l.foldl f st).1 (l.foldl f st).2
 |[],st,y,hT,_,_=>⟨⟨[],ap⟩,J,hT⟩
 |x::l,st,y,hT,hok,hl=>by
  simp only[List.foldl_cons]at hl⊢;obtain⟨z0,hz0⟩:=aos st x;have axW:∀(l:List α) (st:WS),∃acZ,(l.foldl f st).1=st.1++acZ:=by
   intro l;induction l with
   |nil=>intro st;exact⟨[],ap⟩
   |cons a l ih=>intro st;obtain⟨z1,U⟩:=ih (f st a);obtain⟨z2,X⟩:=aos st a;exact⟨z2++z1,by rw[List.foldl_cons,U,X,List.append_assoc]⟩
  obtain⟨z1,hz1⟩:=axW l (f st x);have hl1:(f st x).1.length<=65535:=by rw[hz1,List.length_append]at hl;omega
  obtain⟨s1,s2⟩:=anj st x (z1++y) hT (hok x (List.mem_cons_self ..)) hl1;obtain⟨⟨acZ,i1⟩,i2,i3⟩:=EG f g ok aos anj l (f st x) y s2 (fun a ha=>hok a (List.mem_cons_of_mem _ ha)) hl;refine⟨⟨z0++z1,by rw[hz1,hz0,List.append_assoc]⟩,?_,i3⟩;rw[List.length_cons];unfold uJ;rw[<-List.append_assoc,<-hz1]at s1;rw[s1];simp only;rw[i2]
theorem Zx(st:WS)(q:Qn):∃acZ,(vC st q).1=st.1++acZ:=⟨uE st.2 st.1.length q.name++tT 2 q.E++tT 2 q.N,by simp[vC]⟩
theorem GF(st:WS)(r:RR):∃acZ,(tZ st r).1=st.1++acZ:=⟨_,by unfold tZ yz;simp only[List.append_assoc];rfl⟩
theorem Ls{m:vo}(h:vU m=0):∀q∈m.qs,qE q=0:=by
 unfold vU at h;cases O:m.hd.ok with
 |false=>rw[if_pos O]at h;cases h
 |true=>
  rw[if_neg (by simp[O])]at h;by_cases U:65535<m.qs.length\/65535<m.an.length\/65535<m.au.length\/65535<m.ex.length
  ·rw[if_pos U]at h;cases h
  ·
   rw[if_neg U]at h;by_cases X:xK (m.qs.map qE)=0
   ·exact fun q hq=>Fg X _ (List.mem_map_of_mem hq)
   ·rw[if_pos X]at h;exact absurd h X
theorem NY(m:vo)(pack:Bool):wG (wO m pack).1 (wO m pack).2:=by
  intro T e;cases pack with
  |false=>cases e
  |true=>(obtain rfl:[]=T:=by simpa[wO]using e);exact NV _
theorem Pw{m:vo}{r:RR}:r∈m.BD↔r∈m.an\/r∈m.au\/r∈m.ex:=by simp[vo.BD,or_assoc]
theorem Rp(m:vo)(pack:Bool)(hw:∀r∈m.BD,r.wf)(hc:vU m=0)(hl:(DJ m pack).1.length<=65535):xo (DJ m pack).1= .ok m:=by
 have ok:=Pb hc;have okq:=Ls hc;rw[Vg]at hl⊢;have HQ:∀st x y,wG st.1 st.2->qE x=0->(vC st x).1.length<=65535->vE ((vC st x).1++y) st.1.length= .ok (x,(vC st x).1.length)/\wG (vC st x).1 (vC st x).2:=fun st x y U X _=>Ju st x y U X
 have HR:∀st x y,wG st.1 st.2->(x.wf/\uk x=0)->(tZ st x).1.length<=65535->uY ((tZ st x).1++y) st.1.length= .ok (x,(tZ st x).1.length)/\wG (tZ st x).1 (tZ st x).2:=fun st x y U X h3=>⟨WT st x y U X.1 X.2 (Nat.le_trans (Zw st x) h3),Lr st x U X.1 X.2⟩
 have okR:∀l:List RR,(∀r∈l,r∈m.BD)->∀r∈l,r.wf/\uk r=0:=fun l h r hr=>⟨hw r (h r hr),ok.r r (h r hr)⟩
 have oka:=okR m.an (fun r h=>Pw.2 (.inl h));have oku:=okR m.au (fun r h=>Pw.2 (.inr (.inl h)));have oke:=okR m.ex (fun r h=>Pw.2 (.inr (.inr h)));have T0:=NY m pack;have L0:=Iz m pack;have P0:(wO m pack).1=wW m.hd m.qs.length m.an.length m.au.length m.ex.length:=rfl;generalize wO m pack=s0 at*;obtain⟨s1,U⟩:∃s,m.qs.foldl vC s0=s:=gp;rw[U]at hl⊢;obtain⟨s2,X⟩:∃s,m.an.foldl tZ s1=s:=gp;rw[X]at hl⊢;obtain⟨s3,h3⟩:∃s,m.au.foldl tZ s2=s:=gp;rw[h3]at hl⊢;obtain⟨s4,h4⟩:∃s,m.ex.foldl tZ s3=s:=gp;rw[h4]at hl⊢;have l4:=zt m.ex s3;have l3:=zt m.au s2;have l2:=zt m.an s1;have l1:=Nt m.qs s0;rw[h4]at l4;rw[h3]at l3;rw[X]at l2;rw[U]at l1;have A1:=fun y=>EG vC vE (fun q=>qE q=0) Zx HQ m.qs s0 y T0 okq (by rw[U];omega)
 simp only[U]at A1;have A2:=fun y=>EG tZ uY (fun r=>r.wf/\uk r=0) GF HR m.an s1 y (A1 []).2.2 oka (by rw[X];omega)
 simp only[X]at A2;have A3:=fun y=>EG tZ uY (fun r=>r.wf/\uk r=0) GF HR m.au s2 y (A2 []).2.2 oku (by rw[h3];omega)
 simp only[h3]at A3;have A4:=fun y=>EG tZ uY (fun r=>r.wf/\uk r=0) GF HR m.ex s3 y (A3 []).2.2 oke (by rw[h4];omega)
 simp only[h4]at A4;obtain⟨z4,e4⟩:=(A4 []).1;obtain⟨z3,e3⟩:=(A3 []).1;obtain⟨z2,e2⟩:=(A2 []).1;obtain⟨z1,e1⟩:=(A1 []).1;have B4:=(A4 []).2.1;rw[List.append_nil]at B4;have B3:=(A3 z4).2.1;rw[<-e4]at B3;have B2:=(A2 (z3++z4)).2.1;rw[<-List.append_assoc,<-e3,<-e4]at B2;have B1:=(A1 (z2++(z3++z4))).2.1;rw[<-List.append_assoc,<-List.append_assoc,<-e2,<-e3,<-e4]at B1;have h2:s4.1=wW m.hd m.qs.length m.an.length m.au.length m.ex.length++(z1++z2++z3++z4):=by rw[e4,e3,e2,e1,P0];simp
 obtain⟨a0,a2,a4,a6,a8,a10⟩:=abl m.hd m.qs.length m.an.length m.au.length m.ex.length (z1++z2++z3++z4);rw[<-h2]at a0 a2 a4 a6 a8 a10;have n2:∀k:Nat,k<=65535->uN (tT 2 (k:Int))=k:=fun k O=>by have:=Zr (k:Int) ⟨I,I⟩;omega
 unfold xo;rw[if_neg I,if_neg I,a0,a2,a4,a6,a8,a10,n2 _ ok.lq,n2 _ ok.la,n2 _ ok.lu,n2 _ ok.le,Zs _ ok.hd,<-L0,B1];simp only;rw[B2];simp only;rw[B3];simp only;rw[B4];simp only;rw[if_neg (Nat.lt_irrefl _)]
theorem EI(x:List UInt8)(T:Option Bp)(n:List (List UInt8))(hT:wG x T)(b:Int)(hc:tY n=0):(uE T x.length n).length<=(uE none b n).length:=by
 have U:=(AJ x T n hT hc).2.2;have X:=(Pu x n hc).1;show _<=(yw n).length;omega
theorem Zy(s:List UInt8)(T:Option Bp)(r:RR)(hc:uk r=0)(hT:wG s T)(b:Int):(yx T s.length r).length<=(yx none b r).length:=by
 have hE:=(Lq hc).has;unfold yd at hE;unfold yx;split
 ·exact Nat.le_refl _
 rename_i k1;rw[if_neg k1]at hE;split
 ·exact Nat.le_refl _
 rename_i k2;rw[if_neg k2]at hE;split
 ·rename_i k3;rw[if_pos k3]at hE;exact EI s T r.tg hT b hE
 rename_i k3;rw[if_neg k3]at hE;split
 ·exact Nat.le_refl _
 rename_i k4;rw[if_neg k4]at hE;split
 ·
  rename_i k5;rw[if_pos k5]at hE;by_cases e1:tY r.tg=0
  ·
   rw[if_neg dD]at hE;by_cases e2:tY r.ml=0
   ·obtain⟨p1,p2,p3⟩:=AJ s T r.tg hT e1;have U:=EI s T r.tg hT b e1;have hat:((s.length:Int)+((uE T s.length r.tg).length:Int))=(((s++uE T s.length r.tg).length:Nat):Int):=ap;rw[hat];have X:=EI _ _ r.ml p2 (b+((uE none b r.tg).length:Int)) e2;simp only[List.length_append,vf,Option.map_none]at X⊢;omega
   ·rw[if_pos e2]at hE;exact absurd hE e2
  ·rw[if_pos e1]at hE;exact absurd hE e1
 ·exact Nat.le_refl _
theorem Rr:∀(l:List Qn) (st st':WS),(∀q∈l,qE q=0)->wG st.1 st.2->st'.2=none->st.1.length<=st'.1.length->wG (l.foldl vC st).1 (l.foldl vC st).2/\(l.foldl vC st').2=none/\(l.foldl vC st).1.length<=(l.foldl vC st').1.length
 |[],st,st',_,U,X,h3=>⟨U,X,h3⟩
 |q::l,st,st',hq,U,X,h3=>by
  rw[List.foldl_cons,List.foldl_cons];have q0:=hq q (List.mem_cons_self ..);refine Rr l (vC st q) (vC st' q) (fun a ha=>hq a (List.mem_cons_of_mem _ ha)) (Ju st q [] U q0).2 (by simp[vC,X,vf]) ?_;have:=EI st.1 st.2 q.name U (st'.1.length:Int) (Zt q0).1;unfold vC;simp only[List.length_append,tR,X];omega
theorem Rt:∀(l:List RR) (st st':WS),(∀r∈l,r.wf/\uk r=0)->wG st.1 st.2->st'.2=none->st.1.length<=st'.1.length->wG (l.foldl tZ st).1 (l.foldl tZ st).2/\(l.foldl tZ st').2=none/\(l.foldl tZ st).1.length<=(l.foldl tZ st').1.length
 |[],st,st',_,U,X,h3=>⟨U,X,h3⟩
 |r::l,st,st',hr,U,X,h3=>by
  rw[List.foldl_cons,List.foldl_cons];obtain⟨r0,r1⟩:=hr r (List.mem_cons_self ..);have t2:zA st' r=none:=by simp[zA,X,vf]
  have tt:∀b:Int,DG none b r=none:=fun b=>by unfold DG;split<;>(try split)<;>simp[vf]
  refine Rt l (tZ st r) (tZ st' r) (fun a ha=>hr a (List.mem_cons_of_mem _ ha)) (Lr st r U r0 r1) (by show DG (zA st' r) _ r=none;rw[t2];exact tt _) ?_;have a1:=EI st.1 st.2 r.name U (st'.1.length:Int) (Lq r1).nm;have h4:=(Pv st r U r1).CY (tT 2 (yR st r).length);have a2:=Zy _ _ r r1 h4 (((yz st' r).length:Int)+2);rw[Zv]at a2;have a2':(yR st r).length<=(yR st' r).length:=by unfold yR;rw[t2];exact a2
  have a3:(yz st r).length<=(yz st' r).length:=by unfold yz;simp only[List.length_append,tR,X];omega
  unfold tZ;simp only[List.length_append,tR];omega
theorem abm(m:vo)(hw:∀r∈m.BD,r.wf)(hc:vU m=0):(DJ m true).1.length<=(DJ m false).1.length:=by
 have ok:=Pb hc;obtain⟨q1,q2,q3⟩:=Rr m.qs (wO m true) (wO m false) (Ls hc) (NY m true) J (Nat.le_refl _);exact(Rt m.BD _ _ (fun r hr=>⟨hw r hr,ok.r r hr⟩) q1 q2 q3).2.2
def adg(a:Nat)(s:GS):Prop:=(s.behind=none->a<=s.at')/\(∀b,s.behind=some b->a<b)
theorem NZ{m:List UInt8}{a:Nat}{s:GS}(h:adg a s):(∀s',wV m s= .go s'->adg a s')/\(∀l n,wV m s= .ok l n->a<n):=by
 obtain⟨at',size,bound,behind,acc⟩:=s;obtain⟨U,X⟩:=h;simp only at U X;unfold wV;simp only;constructor
 ·
  intro s' e
  repeat' split at e
  all_goals first
   |(injection e with e;subst e;cases behind with
     |none=>have:=U J;exact⟨fY,fY⟩
     |some b=>have:=X b J;exact⟨ap,fY⟩)
   |exact GO.noConfusion e
 ·
  intro l n e
  repeat' split at e
  all_goals first
   |(injection e with e1 e2;subst e2;cases behind with
     |none=>have:=U J;simp<;>omega
     |some b=>have:=X b J;simpa using this)
   |exact GO.noConfusion e
theorem Zz{m:List UInt8}{a:Nat}{s:GS}{o:GO}(h:Cs m s o):adg a s->∀l n,o= .ok l n->a<n:=by
 induction h with
 |err e=>intro _ l n he;cases he
 |ok e=>intro hp l n he;injection he with U X;subst U X;exact(NZ hp).2 _ _ e
 |go e _ ih=>intro hp;exact ih ((NZ hp).1 _ e)
theorem ZA{m:List UInt8}{a:Nat}{l:List (List UInt8)}{n:Nat}(h:Bg m a= .ok l n):a<n:=by
 unfold Bg at h;cases ho:JG m a with
 |true=>rw[ho,if_pos J]at h;cases h
 |false=>rw[ho,if_neg ap,Int.toNat_natCast]at h;exact Zz (Hi m a) ⟨fun _=>Nat.le_refl _,fun b F=>by cases F⟩ _ _ h
theorem IL{m:List UInt8}{n:List (List UInt8)}(h:xF m p= .ok (n,q)):tY n=0/\p<q/\q<=m.length:=by
 rcases zJ m p with⟨l,k,U,X,h3,h4,h5⟩|⟨e,U,X,h3⟩
 ·rw[X]at h;injection h with h;injection h with e1 e2;subst e1 e2;exact⟨Ko h4 h5,ZA U,h3⟩
 ·rw[X]at h;cases h
theorem Lu{m:List UInt8}{n:List (List UInt8)}(h:y6 m p= .ok (n,q)):tY n=0/\p<q/\q<=m.length:=by
 unfold y6 at h;cases U:xF m p with
 |error e=>rw[U]at h;cases h
 |ok y=>obtain⟨l,k⟩:=y;rw[U]at h;injection h with h;injection h with e1 e2;subst e1 e2;exact IL U
theorem N7{m:List UInt8}{n:List (List UInt8)}(h:wY m p= .ok n):tY n=0:=by
 unfold wY at h;cases U:y6 m p with
 |error e=>rw[U]at h;cases h
 |ok y=>
  obtain⟨l,k⟩:=y;rw[U]at h;simp only at h;split at h
  ·injection h with h;subst h;exact(Lu U).1
  ·cases h
theorem Ds{m:List UInt8}{n:Nat}(h:vH m k p= .ok (n,q)):n<256^k/\q=p+k/\q<=m.length:=by
 unfold vH at h;split at h
 ·cases h
 ·rename_i hh;injection h with h;injection h with U X;subst U X;exact⟨Af _ k az,J,I⟩
theorem Vu{n:Nat}(h:n<=k):xN (k:Int) (n:Int)=true:=by simp[xN];omega
theorem Ub{n:Nat}(h:n<65536):xN 65535 (n:Int)=true:=Vu (k:=65535) I
theorem aen{n:Nat}(h:n<4294967296):xN 4294967295 (n:Int)=true:=Vu (k:=4294967295) I
theorem Uc{m:List UInt8}{q:Qn}(h:vE m p= .ok (q,p')):qE q=0/\p+5<=p'/\p'<=m.length:=by
 unfold vE at h;cases U:xF m p with
 |error e=>rw[U]at h;cases h
 |ok y=>
 obtain⟨n,p1⟩:=y;rw[U]at h;simp only at h;cases X:vH m 2 p1 with
 |error e=>rw[X]at h;cases h
 |ok y=>
 obtain⟨E,p2⟩:=y;rw[X]at h;simp only at h;cases h3:vH m 2 p2 with
 |error e=>rw[h3]at h;cases h
 |ok y=>
 obtain⟨N,p3⟩:=y;rw[h3]at h;simp only at h;injection h with h;injection h with e1 e2;obtain⟨a1,a2,a3⟩:=IL U;obtain⟨b1,b2,b3⟩:=Ds X;obtain⟨c1,c2,c3⟩:=Ds h3;subst e1 e2;refine⟨?_,I,c3⟩;unfold qE;rw[if_neg (by simp[a1]),Ub b1,Ub c1];rfl
theorem abn{m:List UInt8}{a n:Nat}{E N:Int}{r:RR}(h:yn m a n E N= .ok r)(ha:a+n<=m.length)(hm:m.length<=65535)(r':RR)
  (hr:∃nm ak,tY nm=0/\xN 4294967295 ak=true/\r'={r with name:=nm,E:=E,N:=N,ak:=ak}) (hty:xN 65535 E=true) (hcl:xN 65535 N=true):uk r'=0/\r'.wf:=by
 obtain⟨nm,ak,hnm,ajY,rfl⟩:=hr;have hd:((m.take (a+n)).drop a).length=n:=az;have key:∀r0:RR,r0.E=E->r0.N=N->tY r0.name=0->xN 4294967295 r0.ak=true->yd r0=0->zW (xE r0)=true->uk r0=0:=by intro r0 e1 e2 e3 e4 e5 e6;exact adf ⟨e3,by rw[e1];exact hty,by rw[e2];exact hcl,e4,e5,e6⟩
 unfold yn at h;split at h
 ·
  rename_i k1;split at h
  ·
   rename_i hn;injection h with h;subst h;refine⟨key _ J J hnm ajY ?_ ?_,by simp only[RR.wf,RR.zero];simp;omega⟩
   ·
    unfold yd;simp only[k1,if_true];have:(uV.check ⟨4,(m.take (a+n)).drop a++List.replicate 12 0,0⟩)=0:=by unfold uV.check;simp only[if_true];rw[if_pos ⟨by rw[<-hn];exact List.drop_left' hd,trivial⟩]
    rw[this];simp
   ·unfold xE;simp only[k1,true_or,if_true,zW,RR.zero];first|decide|rfl|simp
  ·cases h
 rename_i k1;split at h
 ·
  rename_i k2;split at h
  ·
   rename_i hn;injection h with h;subst h;refine⟨key _ J J hnm ajY ?_ ?_,by simp only[RR.wf,RR.zero];simp;omega⟩
   ·
    unfold yd;simp only[k1,k2,if_true,if_false];have:(uV.check ⟨6,(m.take (a+n)).drop a,0⟩)=0:=by unfold uV.check;simp
    rw[this];simp
   ·unfold xE;simp only[k2,or_true,if_true,zW,RR.zero];first|decide|rfl|simp
  ·cases h
 rename_i k2;have k12:¬(uo E N=1\/uo E N=28):=I;split at h
 ·
  rename_i k3;split at h
  ·cases h
  ·
   rename_i l ht;injection h with h;subst h;refine⟨key _ J J hnm ajY ?_ ?_,⟨J,J⟩⟩
   ·unfold yd;simp only[k1,k2,k3,if_true,if_false];exact N7 ht
   ·unfold xE;simp only[k12,k3,if_true,if_false,zW,RR.zero];first|decide|rfl|simp
 rename_i k3;split at h
 ·
  rename_i k4;split at h
  ·cases h
  ·
   rename_i hn;split at h
   ·cases h
   ·
    rename_i l ht;injection h with h;subst h;refine⟨key _ J J hnm ajY ?_ ?_,⟨J,J⟩⟩
    ·unfold yd;simp only[k1,k2,k3,k4,if_true,if_false];have e1:=Ub (Af (((m.take (a+n)).drop a).take 2) 2 az);have e2:=Ub (Af ((((m.take (a+n)).drop a).drop 2).take 2) 2 az);have e3:=Ub (Af ((((m.take (a+n)).drop a).drop 4).take 2) 2 az);simp only[List.all_cons,List.all_nil,e1,e2,e3,Bool.and_true,if_true];exact N7 ht
    ·unfold xE;simp only[k12,k3,k4,if_true,if_false,zW,RR.zero];first|decide|rfl|simp
 rename_i k4;split at h
 ·
  rename_i k5;cases U:y6 (m.take (a+n)) a with
  |error e=>rw[U]at h;cases h
  |ok y=>
  obtain⟨l,p⟩:=y;rw[U]at h;simp only at h;cases X:y6 (m.take (a+n)) p with
  |error e=>rw[X]at h;cases h
  |ok y=>
  obtain⟨l',q⟩:=y;rw[X]at h;simp only at h;split at h
  ·
   injection h with h;subst h;refine⟨key _ J J hnm ajY ?_ ?_,⟨J,J⟩⟩
   ·
    unfold yd;simp only[k1,k2,k3,k4,k5,if_true,if_false];have e:∀x:List UInt8,xN 4294967295 (uN (x.take 4):Int)=true:=fun x=>aen (Af _ 4 az)
    simp only[zh,List.all_cons,List.all_nil,e,Bool.and_true,if_true];rw[if_neg ax,if_neg ax,(Lu U).1,(Lu X).1];rfl
   ·unfold xE;simp only[k12,k3,k4,k5,if_true,if_false,zW,RR.zero];first|decide|rfl|simp
  ·cases h
 rename_i k5;injection h with h;subst h;refine⟨key _ J J hnm ajY ?_ ?_,⟨J,J⟩⟩
 ·unfold yd;simp only[k1,k2,k3,k4,k5,if_false];rw[if_neg (by rw[hd];omega)]
 ·unfold xE;simp only[k12,k3,k4,k5,if_false,zW,RR.zero];first|decide|rfl|simp
theorem Lv{m:List UInt8}{r:RR}(hm:m.length<=65535)(h:uY m p= .ok (r,p')):(uk r=0/\r.wf)/\p+11<=p'/\p'<=m.length:=by
 unfold uY at h;cases U:xF m p with
 |error e=>rw[U]at h;cases h
 |ok y=>
 obtain⟨n,p1⟩:=y;rw[U]at h;simp only at h;cases X:vH m 2 p1 with
 |error e=>rw[X]at h;cases h
 |ok y=>
 obtain⟨E,p2⟩:=y;rw[X]at h;simp only at h;cases h3:vH m 2 p2 with
 |error e=>rw[h3]at h;cases h
 |ok y=>
 obtain⟨N,p3⟩:=y;rw[h3]at h;simp only at h;cases h4:vH m 4 p3 with
 |error e=>rw[h4]at h;cases h
 |ok y=>
 obtain⟨ak,p4⟩:=y;rw[h4]at h;simp only at h;cases h5:vH m 2 p4 with
 |error e=>rw[h5]at h;cases h
 |ok y=>
 obtain⟨sz,p5⟩:=y;rw[h5]at h;simp only at h;split at h
 ·cases h
 rename_i hsz;cases h6:yn m p5 sz E N with
 |error e=>rw[h6]at h;cases h
 |ok r0=>
 rw[h6]at h;simp only at h;injection h with h;injection h with e1 e2;obtain⟨a1,a2,a3⟩:=IL U;obtain⟨b1,b2,b3⟩:=Ds X;obtain⟨c1,c2,c3⟩:=Ds h3;obtain⟨d1,d2,d3⟩:=Ds h4;obtain⟨f1,f2,f3⟩:=Ds h5;refine⟨abn h6 I hm r ⟨n,ak,a1,aen d1,e1.symm⟩ (Ub b1) (Ub c1),I,I⟩
theorem Ia{α:Type}{g:Nat->Except Int (α×Nat)}{P:α->Prop}{c len:Nat}(hg:∀p x p',g p= .ok (x,p')->P x/\p+c<=p'/\p'<=len):
  ∀(k p:Nat) (l:List α) (p':Nat),uJ g k p= .ok (l,p')->p<=len->(∀x∈l,P x)/\l.length=k/\p+c*k<=p'/\p'<=len
 |0,p,l,p',h,hp=>by
  unfold uJ at h;injection h with h;injection h with e1 e2;subst e1 e2;exact⟨(fun x hx=>by cases hx),J,I,hp⟩
 |k+1,p,l,p',h,hp=>by
  unfold uJ at h;cases U:g p with
  |error e=>rw[U]at h;cases h
  |ok y=>
  obtain⟨x,p1⟩:=y;rw[U]at h;simp only at h;cases X:uJ g k p1 with
  |error e=>rw[X]at h;cases h
  |ok y=>
  obtain⟨l1,p2⟩:=y;rw[X]at h;simp only at h;injection h with h;injection h with e1 e2;obtain⟨a1,a2,a3⟩:=hg _ _ _ U;obtain⟨b1,b2,b3,b4⟩:=Ia hg k p1 l1 p2 X a3;subst e1 e2;refine⟨fun y hy=>?_,by simp[b2],by rw[Nat.mul_succ];omega,b4⟩;rcases List.mem_cons.1 hy with rfl|hy
  ·exact a1
  ·exact b1 y hy
theorem abo(a b:Nat)(ha:a<65536)(F:b<65536):(Eg a b).ok=true:=by
 rw[IK];simp only[Eg];omega
theorem abp{s:List UInt8}{m:vo}(h:xo s= .ok m):vU m=0/\(∀r∈m.BD,r.wf)/\12+5*m.qs.length+11*m.BD.length<=s.length/\s.length<=65535:=by
 unfold xo at h;split at h
 ·cases h
 rename_i hl;split at h
 ·cases h
 rename_i hs;cases U:uJ (vE s) (xO s 4) 12 with
 |error e=>rw[U]at h;cases h
 |ok y=>
 obtain⟨q,p1⟩:=y;rw[U]at h;simp only at h;cases X:uJ (uY s) (xO s 6) p1 with
 |error e=>rw[X]at h;cases h
 |ok y=>
 obtain⟨a,p2⟩:=y;rw[X]at h;simp only at h;cases h3:uJ (uY s) (xO s 8) p2 with
 |error e=>rw[h3]at h;cases h
 |ok y=>
 obtain⟨u,p3⟩:=y;rw[h3]at h;simp only at h;cases h4:uJ (uY s) (xO s 10) p3 with
 |error e=>rw[h4]at h;cases h
 |ok y=>
 obtain⟨x,p4⟩:=y;rw[h4]at h;simp only at h;split at h
 ·cases h
 injection h with h;have q0:=yU s 4;have q1:=yU s 6;have q2:=yU s 8;have q3:=yU s 10;have hq:=abo _ _ (yU s 0) (yU s 2);obtain⟨a1,a2,a3,a4⟩:=Ia (fun p x p' h=>Uc (m:=s) h) _ _ _ _ U I;obtain⟨b1,b2,b3,b4⟩:=Ia (fun p x p' h=>Lv (m:=s) I h) _ _ _ _ X a4;obtain⟨c1,c2,c3,c4⟩:=Ia (fun p x p' h=>Lv (m:=s) I h) _ _ _ _ h3 b4;obtain⟨d1,d2,d3,d4⟩:=Ia (fun p x p' h=>Lv (m:=s) I h) _ _ _ _ h4 c4;have hr:∀r∈a++u++x,uk r=0/\r.wf:=by
  intro r hr;simp only[List.mem_append]at hr;rcases hr with(hr|hr)|hr
  ·exact b1 r hr
  ·exact c1 r hr
  ·exact d1 r hr
 subst h;refine⟨?_,fun r hr'=>(hr r hr').2,?_,I⟩
 ·unfold vU;simp only[hq];rw[if_neg ap,if_neg I];have e1:xK (q.map qE)=0:=Pa (fun j hj=>by rw[List.getElem_map];exact a1 _ (List.getElem_mem _));have e2:xK ((a++u++x).map uk)=0:=Pa (fun j hj=>by rw[List.getElem_map];exact(hr _ (List.getElem_mem _)).1);rw[if_neg dD];exact e2
 ·simp only[vo.BD,List.length_append];omega
end Go.Proofs.YthnbcmlnpdabhaaGreat
