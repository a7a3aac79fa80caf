/-
  Layer 12 (packed),the plain law of PackedBack:what is put,one behind the other,is got.
-/
import Derived.Test.YtakkipnmpmobbaaGreatHAq
namespace Go.Proofs.YtakkipnmpmobbaaGreat
open _root_.Go.Proofs.Tryz
set_option linter.unusedVariables false
variable {p q k p':Nat}
theorem ZZ(x:List UInt8)(T:List (List (List UInt8)×Nat))(hT:Cj x T)(n:List (List UInt8))(hc:rR n=0):
  (∃a,Kv T x.length n=a/\a.length<=sq n+1/\Rd (x++a) x.length x.length n (x.length+a.length))/\Cj (x++Kv T x.length n) (NF T x.length n):=by
 obtain⟨hg,hs⟩:=ud hc;obtain⟨⟨a,U,F,h3,h4⟩,h5⟩:=aer T x hT n [] hg;unfold Kv NF;rw[if_pos hc,if_pos hc];refine⟨⟨_,I,?_,?_⟩,?_⟩
 ·rw[U];simpa using F
 ·have:=h4 x.length (Nat.le_refl _);rw[U];simpa using this
 ·
  intro r hr;rcases List.mem_append.1 hr with h|h
  ·exact hT.Ce _ r h
  ·exact h5 r h
theorem Mh(x:List UInt8):Cj x []:=by intro r hr;cases hr
theorem N9(x:List UInt8)(n:List (List UInt8))(hc:rR n=0):(xn n).length=sq n+1/\Rd (x++xn n) x.length x.length n (x.length+(xn n).length):=by
 have e:Kv [] x.length n=xn n:=by unfold Kv xn PV;rw[if_pos hc,if_pos hc,YL];simp
 obtain⟨⟨a,U,F,h3⟩,_⟩:=ZZ x [] (Mh x) n hc;rw[e]at U;subst U;refine⟨?_,h3⟩;unfold xn PV;rw[if_pos hc,List.length_append,tP];rfl
set_option linter.unusedSimpArgs false
set_option maxRecDepth 10000
def ua(m:List UInt8)(T:Option z6):Prop:=∀T',T=some T'->Cj m T'
theorem ua.Ce{m:List UInt8}{T:Option z6}(h:ua m T)(y:List UInt8):ua (m++y) T:=fun T' e=>(h T' e).Ce y
theorem yB(x:List UInt8)(T:Option z6)(n:List (List UInt8))(hT:ua x T)(hc:rR n=0):
  Rd (x++sC T x.length n) x.length x.length n (x.length+(sC T x.length n).length)/\ua (x++sC T x.length n) (tz T x.length n)/\(sC T x.length n).length<=sq n+1:=by
 cases T with
 |none=>obtain⟨U,F⟩:=N9 x n hc;exact⟨F,fun T' e=>(by cases e),(by show(xn n).length<=_;omega)⟩
 |some T=>obtain⟨⟨a,U,F,h3⟩,h4⟩:=ZZ x T (hT T I) n hc;subst U;exact⟨h3,fun T' e=>(by cases e;exact h4),F⟩
theorem Gc{m:List UInt8}{n:List (List UInt8)}{e:Nat}(h:Rd m p p n e)(hp:p<=m.length)(hc:rR n=0):vO m p= .ok (n,e):=by
 unfold vO;rw[acg h hp (ud hc).2]
theorem EV{m:List UInt8}{n:List (List UInt8)}{e:Nat}(h:Rd m p p n e)(hp:p<=m.length)(hc:rR n=0):xh m p= .ok (n,e):=by
 unfold xh;rw[Gc h hp hc]
theorem xB(n:Int)(h:xG 65535 n=true):((sY (rP 2 n):Nat):Int)=n:=by
 have F:=Fv 2 n;exact pw
theorem y9(n:Int)(h:xG 4294967295 n=true):((sY (rP 4 n):Nat):Int)=n:=by
 have F:=Fv 4 n;exact pw
def Vu(r:RR):RR:={r with name:=[],Q:=0,cl:=0,ttl:=0}
structure ROk (r:RR):Prop where
 nm:rR r.name=0
 Q:xG 65535 r.Q=true
 cl:xG 65535 r.cl=true
 ttl:xG 4294967295 r.ttl=true
 has:wT r=0
 bare:zF (vL r)=true
theorem Jp{r:RR}(h:r8 r=0):ROk r:=by
 unfold r8 at h;by_cases U:rR r.name=0
 ·
  rw[if_neg bh]at h;by_cases F:¬([r.Q,r.cl].all (xG 65535))=true\/¬xG 4294967295 r.ttl=true
  ·rw[if_pos F]at h;cases h
  ·
   rw[if_neg F]at h;by_cases h3:wT r=0
   ·
    rw[if_neg (by simp[h3])]at h;by_cases h4:zF (vL r)=true
    ·simp only[not_or,Classical.not_not,List.all_cons,List.all_nil,Bool.and_true,Bool.and_eq_true]at F;exact⟨U,F.1.1,F.1.2,F.2,h3,h4⟩
    ·rw[if_neg h4]at h;cases h
   ·rw[if_pos h3]at h;exact absurd h h3
 ·exact qJ
theorem aeI{r:RR}(h:ROk r):r8 r=0:=by
 unfold r8;rw[if_neg (by simp[h.nm]),if_neg (by simp[h.Q,h.cl,h.ttl]),if_neg (by simp[h.has]),if_pos h.bare]
theorem AE{r:RR}:zF r=true↔r.ad=sg.zero/\r.tg=[]/\r.ml=[]/\r.pri=0/\r.we=0/\r.po=0/\r.abY=[0,0,0,0,0]/\r.raw=[]:=by
 simp[zF,and_assoc]
theorem wV(s d:List UInt8):(s++d).take (s.length+d.length)=s++d:=List.take_of_length_le ar
theorem Mi(s:List UInt8)(T:Option z6)(r:RR)(hw:r.wf)(hc:r8 r=0)(hT:ua s T):
  wN (s++xQ T s.length r) s.length (xQ T s.length r).length r.Q r.cl= .ok (Vu r)/\ua (s++xQ T s.length r) (Dt T s.length r):=by
 have ok:=Jp hc;have hE:=ok.has;have hB:=ok.bare;obtain⟨name,Q,cl,ttl,ad,tg,ml,pri,we,po,abY,raw⟩:=r;have hw1:ad.ip.length=16:=hw.1;have hw2:abY.length=5:=hw.2;unfold wN xQ Dt;unfold wT at hE;unfold vL at hB;simp only at hE hB⊢;rcases Cq Q cl with h|h|h|h|h|h
 ·
  --A
  simp only[h]at hE hB⊢;simp only[if_true,true_or,show ¬((1:Int)=28)by decide,show ¬((1:Int)=5)by decide,show ¬((1:Int)=12)by decide,show ¬((1:Int)=6)by decide,or_self,if_false]at hE hB⊢;obtain⟨b1,b2,b3,b4,b5,b6,b7,b8⟩:=AE.1 hB;simp only at b1 b2 b3 b4 b5 b6 b7 b8;have hd:(ad.ip.take 4).length=4:=by simp[hw1]
  refine⟨?_,hT.Ce _⟩;rw[if_pos hd,wV,List.drop_left];split at hE
  ·cases hE
  ·
   rename_i hn;simp only[not_or,Classical.not_not]at hn;obtain⟨n1,n2,n3⟩:=hn;have n4:ad.ip.drop 4=List.replicate 12 0:=by
    unfold sg.check at n1;rw[if_pos n2]at n1;split at n1
    ·rename_i hh;exact hh.1
    ·cases n1
   have e:ad=⟨4,ad.ip.take 4++List.replicate 12 0,0⟩:=by rw[<-n4,List.take_append_drop,<-n2,<-n3]
   exact qM
 ·
  --aS0
  simp only[h]at hE hB⊢;simp only[if_true,or_true,show ¬((28:Int)=1)by decide,show ¬((28:Int)=5)by decide,show ¬((28:Int)=12)by decide,show ¬((28:Int)=6)by decide,or_self,if_false]at hE hB⊢;obtain⟨b1,b2,b3,b4,b5,b6,b7,b8⟩:=AE.1 hB;simp only at b1 b2 b3 b4 b5 b6 b7 b8;refine⟨?_,hT.Ce _⟩;rw[if_pos hw1,wV,List.drop_left];split at hE
  ·cases hE
  ·
   rename_i hn;simp only[not_or,Classical.not_not]at hn;obtain⟨n1,n2,n3⟩:=hn;have e:ad=⟨6,ad.ip,0⟩:=by rw[<-n2,<-n3]
   exact qM
 ·
  --names
  have U:¬sf Q cl=1:=lO;have F:¬sf Q cl=28:=lO;have h12:¬(sf Q cl=1\/sf Q cl=28):=Y;rw[if_neg U,if_neg F,if_pos h]at hE;rw[if_neg h12,if_pos h]at hB;rw[if_neg U,if_neg F,if_pos h,if_neg U,if_neg F,if_pos h,if_pos h];obtain⟨b1,b2,b3,b4,b5,b6,b7,b8⟩:=AE.1 hB;simp only at b1 b2 b3 b4 b5 b6 b7 b8;obtain⟨p1,p2,p3⟩:=yB s T tg hT hE;refine⟨?_,p2⟩;rw[wV];unfold vy;rw[EV p1 ar hE];simp only;rw[if_pos ar];subst b1 b3 b4 b5 b6 b7 b8;rfl
 ·
  --SRV
  simp only[h]at hE hB⊢;simp only[if_true,show ¬((33:Int)=1)by decide,show ¬((33:Int)=28)by decide,show ¬((33:Int)=5)by decide,show ¬((33:Int)=12)by decide,show ¬((33:Int)=6)by decide,or_self,if_false]at hE hB⊢;obtain⟨b1,b2,b3,b4,b5,b6,b7,b8⟩:=AE.1 hB;simp only at b1 b2 b3 b4 b5 b6 b7 b8;split at hE
  ·
   rename_i hn;simp only[List.all_cons,List.all_nil,Bool.and_true,Bool.and_eq_true]at hn;obtain⟨n1,n2,n3⟩:=hn;refine⟨?_,hT.Ce _⟩;obtain⟨z1,z2⟩:=N9 (s++(rP 2 pri++rP 2 we++rP 2 po)) tg hE;have hl6:(rP 2 pri++rP 2 we++rP 2 po).length=6:=by simp[rL]
   have E:(s++(rP 2 pri++rP 2 we++rP 2 po)).length=s.length+6:=by rw[List.length_append,hl6]
   rw[if_neg cI,wV];rw[E,List.append_assoc]at z2;unfold vy;rw[EV z2 cI hE];simp only;rw[if_pos cI,List.drop_left];have t1:(rP 2 pri++rP 2 we++rP 2 po++xn tg).take 2=rP 2 pri:=by rw[List.append_assoc,List.append_assoc];exact List.take_left' (rL 2 _)
   have d2:(rP 2 pri++rP 2 we++rP 2 po++xn tg).drop 2=rP 2 we++(rP 2 po++xn tg):=by rw[List.append_assoc,List.append_assoc];exact List.drop_left' (rL 2 _)
   have d4:(rP 2 pri++rP 2 we++rP 2 po++xn tg).drop 4=rP 2 po++xn tg:=by rw[show(4:Nat)=2+2 from I,<-List.drop_drop,d2];exact List.drop_left' (rL 2 _)
   rw[t1,d2,d4,List.take_left' (rL 2 _),List.take_left' (rL 2 _),xB _ n1,xB _ n2,xB _ n3];subst b1 b3 b7 b8;rfl
  ·cases hE
 ·
  --SOA
  simp only[h]at hE hB⊢;simp only[if_true,show ¬((6:Int)=1)by decide,show ¬((6:Int)=28)by decide,show ¬((6:Int)=5)by decide,show ¬((6:Int)=12)by decide,show ¬((6:Int)=33)by decide,or_self,if_false]at hE hB⊢;obtain⟨b1,b2,b3,b4,b5,b6,b7,b8⟩:=AE.1 hB;simp only at b1 b2 b3 b4 b5 b6 b7 b8;by_cases e1:rR tg=0
  ·
   rw[if_neg cJ]at hE;by_cases e2:rR ml=0
   ·
    rw[if_neg (by simp[e2])]at hE;split at hE
    ·
     rename_i hn;obtain⟨p1,p2,p3⟩:=yB s T tg hT e1;obtain⟨A,hA⟩:∃A,A=sC T s.length tg:=gh;rw[<-hA]at p1 p2 p3⊢;have hat:((s.length:Int)+(A.length:Int))=(((s++A).length:Nat):Int):=ar;rw[hat];obtain⟨q1,q2,q3⟩:=yB (s++A) (tz T s.length tg) ml p2 e2;obtain⟨Hh,hB'⟩:∃Hh,Hh=sC (tz T s.length tg) ((s++A).length:Nat) ml:=gh;rw[<-hB']at q1 q2 q3⊢;obtain⟨ag3,hN⟩:∃ag3,ag3=abY.flatMap (rP 4):=gh;rw[<-hN];have hNl:ag3.length=20:=by
      rw[hN];match abY,hw2 with
      |[x0,x1,x2,x3,x4],_=>simp[rL]
     have hm:s++(A++Hh++ag3)=s++A++Hh++ag3:=ar;refine⟨?_,by rw[hm];exact q2.Ce _⟩;rw[wV,hm];have p1':Rd (s++A++Hh++ag3) s.length s.length tg (s.length+A.length):=(p1.Ce Hh).Ce ag3;have q1':Rd (s++A++Hh++ag3) (s++A).length (s++A).length ml ((s++A).length+Hh.length):=q1.Ce ag3;rw[EV p1' cK e1];simp only;rw[show s.length+A.length=(s++A).length by simp,EV q1' cK e2];simp only;rw[if_pos (by simp only[List.length_append,hNl])];have aAX:DU (s++A++Hh++ag3) ((s++A).length+Hh.length)=abY:=by
      have hd:(s++A++Hh++ag3).drop ((s++A).length+Hh.length)=ag3:=by rw[<-List.length_append,List.drop_left]
      unfold DU;simp only[<-List.drop_drop,hd];match abY,hw2,hN,hn with
      |[x0,x1,x2,x3,x4],_,hN,hn=>
       simp only[List.all_cons,List.all_nil,Bool.and_true,Bool.and_eq_true]at hn;obtain⟨n0,n1,n2,n3,n4⟩:=hn;have hN':ag3=rP 4 x0++(rP 4 x1++(rP 4 x2++(rP 4 x3++(rP 4 x4)))):=by rw[hN];simp
       have f1:ag3.drop 4=rP 4 x1++(rP 4 x2++(rP 4 x3++(rP 4 x4))):=by rw[hN'];exact List.drop_left' (rL 4 _)
       have f2:ag3.drop 8=rP 4 x2++(rP 4 x3++(rP 4 x4)):=by rw[show(8:Nat)=4+4 from I,<-List.drop_drop,f1];exact List.drop_left' (rL 4 _)
       have f3:ag3.drop 12=rP 4 x3++(rP 4 x4):=by rw[show(12:Nat)=8+4 from I,<-List.drop_drop,f2];exact List.drop_left' (rL 4 _)
       have f4:ag3.drop 16=rP 4 x4:=by rw[show(16:Nat)=12+4 from I,<-List.drop_drop,f3];exact List.drop_left' (rL 4 _)
       have g0:ag3.take 4=rP 4 x0:=by rw[hN'];exact List.take_left' (rL 4 _)
       rw[f1,f2,f3,f4,g0,List.take_left' (rL 4 _),List.take_left' (rL 4 _),List.take_left' (rL 4 _),List.take_of_length_le (by rw[rL];omega),y9 _ n0,y9 _ n1,y9 _ n2,y9 _ n3,y9 _ n4]
     rw[aAX];subst b1 b4 b5 b6 b8;rfl
    ·cases hE
   ·rw[if_pos e2]at hE;exact absurd hE e2
  ·rw[if_pos e1]at hE;exact absurd hE e1
 ·
  --az9
  simp only[h]at hE hB⊢;simp only[if_true,show ¬((0:Int)=1)by decide,show ¬((0:Int)=28)by decide,show ¬((0:Int)=5)by decide,show ¬((0:Int)=12)by decide,show ¬((0:Int)=33)by decide,show ¬((0:Int)=6)by decide,or_self,if_false]at hE hB⊢;obtain⟨b1,b2,b3,b4,b5,b6,b7,b8⟩:=AE.1 hB;simp only at b1 b2 b3 b4 b5 b6 b7 b8;refine⟨?_,hT.Ce _⟩;rw[wV,List.drop_left];subst b1 b2 b3 b4 b5 b6 b7;rfl
open Go.RowKit
set_option maxRecDepth 100000
theorem DZ(b:Bool)(n:Int):∃x:Int,uM b n=n*x/\0<=x/\x<=1/\(x==1)=b:=by
 cases b
 ·exact⟨0,by simp[uM],Y,Y,I⟩
 ·exact⟨1,by simp[uM],Y,Y,I⟩
theorem Gd(h:Hd):h.ok=true↔(0<=h.id/\h.id<=65535)/\(0<=h.op/\h.op<=15)/\(0<=h.rc/\h.rc<=15):=by simp[Hd.ok,and_assoc]
theorem Xk(h:Hd)(O:h.ok=true):0<=h.num/\h.num<=65535:=by
 obtain⟨_,⟨o0,o1⟩,⟨r0,r1⟩⟩:=(Gd h).1 O;have a:=sB h.qr 32768 K;have b:=sB h.aa 1024 K;have c:=sB h.tc 512 K;have d:=sB h.rd 256 K;have e:=sB h.ra 128 K;have f:=sB h.ad 32 K;have g:=sB h.cd 16 K;unfold Hd.num;omega
theorem aaa(n:Int)(h:0<=n/\n<=65535):(sY (rP 2 n):Int)=n:=by
 rw[Fv];have:((256^2:Nat):Int)=65536:=rfl;rw[this];omega
theorem aab(h:Hd)(O:h.ok=true):Fz (sY (rP 2 h.id)) (sY (rP 2 h.num))=h:=by
 have hn:=aaa h.num (Xk h O);obtain⟨hi,⟨o0,o1⟩,⟨r0,r1⟩⟩:=(Gd h).1 O;have hid:=aaa h.id hi;generalize sY (rP 2 h.num)=ag3 at*;generalize sY (rP 2 h.id)=aUf at*;obtain⟨id,qr,op,aa,tc,rd,ra,ad,cd,rc⟩:=h;simp only[Hd.num]at*;obtain⟨x1,e1,p1,q1,rfl⟩:=DZ qr 32768;obtain⟨x2,e2,p2,q2,rfl⟩:=DZ aa 1024;obtain⟨x3,e3,p3,q3,rfl⟩:=DZ tc 512;obtain⟨x4,e4,p4,q4,rfl⟩:=DZ rd 256;obtain⟨x5,e5,p5,q5,rfl⟩:=DZ ra 128;obtain⟨x6,e6,p6,q6,rfl⟩:=DZ ad 32;obtain⟨x7,e7,p7,q7,rfl⟩:=DZ cd 16;rw[e1,e2,e3,e4,e5,e6,e7]at hn;have key:∀(k:Nat) (x:Int),(0<=x/\x<=1)->(ag3:Int)/(k:Int)%2=x->z7 ag3 k=(x==1):=by intro k x hx he;rw[<-afJ,he]
 simp only[Fz,Hd.mk.injEq];refine⟨hid,key 32768 x1 ⟨p1,q1⟩ ?_,?_,key 1024 x2 ⟨p2,q2⟩ ?_,key 512 x3 ⟨p3,q3⟩ ?_,key 256 x4 ⟨p4,q4⟩ ?_,key 128 x5 ⟨p5,q5⟩ ?_,key 32 x6 ⟨p6,q6⟩ ?_,key 16 x7 ⟨p7,q7⟩ ?_,?_⟩;all_goals omega
theorem Dh(a b c:List UInt8)(k:Nat)(ha:a.length=k)(Z:b.length=2):xp (a++(b++c)) k=sY b:=by
 subst ha;unfold xp;rw[List.drop_left,<-Z,List.take_left]
theorem acC(h:Hd)(c0 c1 c2 c3:Int)(more:List UInt8):xp (uB h c0 c1 c2 c3++more) 0=sY (rP 2 h.id)/\xp (uB h c0 c1 c2 c3++more) 2=sY (rP 2 h.num)/\xp (uB h c0 c1 c2 c3++more) 4=sY (rP 2 c0)/\
  xp (uB h c0 c1 c2 c3++more) 6=sY (rP 2 c1)/\xp (uB h c0 c1 c2 c3++more) 8=sY (rP 2 c2)/\xp (uB h c0 c1 c2 c3++more) 10=sY (rP 2 c3):=by
 have l:=rL 2;unfold uB;refine⟨?_,?_,?_,?_,?_,?_⟩
 ·have:=Dh [] (rP 2 h.id) (rP 2 h.num++rP 2 c0++rP 2 c1++rP 2 c2++rP 2 c3++more) 0 I (l _);exact oY
 ·have:=Dh (rP 2 h.id) (rP 2 h.num) (rP 2 c0++rP 2 c1++rP 2 c2++rP 2 c3++more) 2 (l _) (l _);exact oY
 ·have:=Dh (rP 2 h.id++rP 2 h.num) (rP 2 c0) (rP 2 c1++rP 2 c2++rP 2 c3++more) 4 cL (l _);exact oY
 ·have:=Dh (rP 2 h.id++rP 2 h.num++rP 2 c0) (rP 2 c1) (rP 2 c2++rP 2 c3++more) 6 cL (l _);exact oY
 ·have:=Dh (rP 2 h.id++rP 2 h.num++rP 2 c0++rP 2 c1) (rP 2 c2) (rP 2 c3++more) 8 cL (l _);exact oY
 ·have:=Dh (rP 2 h.id++rP 2 h.num++rP 2 c0++rP 2 c1++rP 2 c2) (rP 2 c3) more 10 cL (l _);exact oY
theorem zc(s y:List UInt8)(k:Nat)(n:Int):uo (s++(rP k n++y)) k s.length= .ok (sY (rP k n),s.length+k):=by
 unfold uo;have E:=rL k n;rw[if_neg (by simp only[List.length_append,E];omega)];have e:((s++(rP k n++y)).take (s.length+k)).drop s.length=rP k n:=by
  rw[<-List.append_assoc];have U:(s++rP k n).length=s.length+k:=by simp[E]
  rw[<-U,List.take_left,List.drop_left]
 rw[e]
theorem ad6{q:Qn}(h:qE q=0):rR q.name=0/\xG 65535 q.Q=true/\xG 65535 q.cl=true:=by
 unfold qE at h;by_cases U:rR q.name=0
 ·
  rw[if_neg bh]at h;by_cases F:(xG 65535 q.Q&&xG 65535 q.cl)=true
  ·rw[Bool.and_eq_true]at F;exact⟨U,F⟩
  ·rw[if_neg F]at h;cases h
 ·exact qJ
theorem GW(st:WS)(q:Qn)(y:List UInt8)(hT:ua st.1 st.2)(hq:qE q=0):
  uC ((uk st q).1++y) st.1.length= .ok (q,(uk st q).1.length)/\ua (uk st q).1 (uk st q).2:=by
 obtain⟨hc,U,F⟩:=ad6 hq;obtain⟨s,T⟩:=st;obtain⟨n,Q,cl⟩:=q;simp only at hT hc U F⊢;obtain⟨p1,p2,p3⟩:=yB s T n hT hc;unfold uk;simp only;generalize sC T s.length n=A at*;have hA:(s++A).length=s.length+A.length:=ar;have m0:s++A++rP 2 Q++rP 2 cl++y=s++A++(rP 2 Q++(rP 2 cl++y)):=ar;have m1:s++A++rP 2 Q++rP 2 cl++y=s++A++rP 2 Q++(rP 2 cl++y):=ar;have e0:vO (s++A++rP 2 Q++rP 2 cl++y) s.length= .ok (n,s.length+A.length):=by rw[m0];exact Gc (p1.Ce _) ar hc
 have e1:uo (s++A++rP 2 Q++rP 2 cl++y) 2 (s.length+A.length)= .ok (sY (rP 2 Q),s.length+A.length+2):=by rw[m0,<-hA];exact zc _ _ 2 Q
 have hB:(s++A++rP 2 Q).length=s.length+A.length+2:=kx;have e2:uo (s++A++rP 2 Q++rP 2 cl++y) 2 (s.length+A.length+2)= .ok (sY (rP 2 cl),s.length+A.length+2+2):=by rw[m1,<-hB];exact zc _ _ 2 cl
 have hC:(s++A++rP 2 Q++rP 2 cl).length=s.length+A.length+2+2:=kw;refine⟨?_,(p2.Ce _).Ce _⟩;unfold uC;rw[e0];simp only;rw[e1];simp only;rw[e2];simp only;rw[xB _ U,xB _ F,hC]
theorem aac(m y:List UInt8)(a n:Nat)(Q cl:Int)(h:a+n<=m.length):wN (m++y) a n Q cl=wN m a n Q cl:=by
 unfold wN;rw[List.take_append_of_le_length h]
theorem Ob(st:WS)(r:RR)(hT:ua st.1 st.2)(hc:r8 r=0):ua (xF st r) (zz st r):=by
 obtain⟨p1,p2,p3⟩:=yB st.1 st.2 r.name hT (Jp hc).nm;exact((p2.Ce _).Ce _).Ce _
theorem aad(st:WS)(r:RR)(x:List UInt8):((xF st r++rP 2 x.length).length:Int)=((xF st r).length:Int)+2:=by
 rw[List.length_append,rL];simp
theorem Jq(st:WS)(r:RR)(hT:ua st.1 st.2)(hw:r.wf)(hc:r8 r=0):ua (r7 st r).1 (r7 st r).2:=by
 have U:=(Ob st r hT hc).Ce (rP 2 (yA st r).length);have F:=(Mi _ _ r hw hc U).2;rw[aad]at F;exact F
theorem Xl(st:WS)(r:RR)(y:List UInt8)(hT:ua st.1 st.2)(hw:r.wf)(hc:r8 r=0)(E:(yA st r).length<=65535):
  th ((r7 st r).1++y) st.1.length= .ok (r,(r7 st r).1.length):=by
 have ok:=Jp hc;have U:=(Ob st r hT hc).Ce (rP 2 (yA st r).length);have F:=(Mi _ _ r hw hc U).1;rw[aad]at F;change wN (xF st r++rP 2 (yA st r).length++yA st r) _ (yA st r).length _ _=_ at F;obtain⟨p1,p2,p3⟩:=yB st.1 st.2 r.name hT ok.nm;unfold r7;simp only;generalize yA st r=D at*;unfold xF at*;generalize sC st.2 st.1.length r.name=A at*;obtain⟨s,T⟩:=st;simp only at hT U F p1 p2 p3⊢;have hA:(s++A).length=s.length+A.length:=ar;have hB:(s++A++rP 2 r.Q).length=s.length+A.length+2:=kx;have hC:(s++A++rP 2 r.Q++rP 2 r.cl).length=s.length+A.length+2+2:=kw;have hD:(s++A++rP 2 r.Q++rP 2 r.cl++rP 4 r.ttl).length=s.length+A.length+2+2+4:=by rw[List.length_append,rL,hC]
 have hE:(s++A++rP 2 r.Q++rP 2 r.cl++rP 4 r.ttl++rP 2 D.length).length=s.length+A.length+2+2+4+2:=by rw[List.length_append,rL,hD]
 obtain⟨M,hM⟩:∃M,s++A++rP 2 r.Q++rP 2 r.cl++rP 4 r.ttl++rP 2 D.length++D++y=M:=gh;have m0:M=s++A++(rP 2 r.Q++(rP 2 r.cl++rP 4 r.ttl++rP 2 D.length++D++y)):=jQ;have m1:M=s++A++rP 2 r.Q++(rP 2 r.cl++(rP 4 r.ttl++rP 2 D.length++D++y)):=jQ;have m2:M=s++A++rP 2 r.Q++rP 2 r.cl++(rP 4 r.ttl++(rP 2 D.length++D++y)):=jQ;have m3:M=s++A++rP 2 r.Q++rP 2 r.cl++rP 4 r.ttl++(rP 2 D.length++(D++y)):=jQ;have hMl:M.length=s.length+A.length+2+2+4+2+D.length+y.length:=by rw[<-hM,List.length_append,List.length_append,hE]
 have e0:vO M s.length= .ok (r.name,s.length+A.length):=by rw[m0];exact Gc (p1.Ce _) ar ok.nm
 have e1:uo M 2 (s.length+A.length)= .ok (sY (rP 2 r.Q),s.length+A.length+2):=by rw[m0,<-hA];exact zc _ _ 2 _
 have e2:uo M 2 (s.length+A.length+2)= .ok (sY (rP 2 r.cl),s.length+A.length+2+2):=by rw[m1,<-hB];exact zc _ _ 2 _
 have e3:uo M 4 (s.length+A.length+2+2)= .ok (sY (rP 4 r.ttl),s.length+A.length+2+2+4):=by rw[m2,<-hC];exact zc _ _ 4 _
 have e4:uo M 2 (s.length+A.length+2+2+4)= .ok (sY (rP 2 D.length),s.length+A.length+2+2+4+2):=by rw[m3,<-hD];exact zc _ _ 2 _
 have hsz:sY (rP 2 D.length)=D.length:=by have:=xB (D.length:Int) (by simp[xG];omega);omega
 have e5:wN M (s.length+A.length+2+2+4+2) D.length r.Q r.cl= .ok (Vu r):=by rw[<-hM,aac _ _ _ _ _ _ (by rw[List.length_append,hE];omega),<-hE];exact F
 rw[hM];unfold th;rw[e0];simp only;rw[e1];simp only;rw[e2];simp only;rw[e3];simp only;rw[e4,hsz];simp only;rw[if_neg Y,xB _ ok.Q,xB _ ok.cl,e5];simp only;rw[y9 _ ok.ttl];simp only[Vu];rw[List.length_append,hE]
theorem aae(st:WS)(r:RR):(yA st r).length<=(r7 st r).1.length:=by simp[r7];omega
theorem Cx{α:Type}(f:WS->α->WS)(g:List UInt8->Nat->Except Int (α×Nat))(ok:α->Prop)(amb:∀st x,∃z,(f st x).1=st.1++z)
  (aqb:∀st x y,ua st.1 st.2->ok x->(f st x).1.length<=65535->g ((f st x).1++y) st.1.length= .ok (x,(f st x).1.length)/\ua (f st x).1 (f st x).2):
  ∀(l:List α) (st:WS) (y:List UInt8),ua st.1 st.2->(∀x∈l,ok x)->(l.foldl f st).1.length<=65535->
   (∃z,(l.foldl f st).1=st.1++z)/\sF (g ((l.foldl f st).1++y)) l.length st.1.length= .ok (l,(l.foldl f st).1.length)/\ua (l.foldl f st).1 (l.foldl f st).2
 |[],st,y,hT,_,_=>⟨⟨[],ar⟩,I,hT⟩
 |x::l,st,y,hT,hok,E=>by
  simp only[List.foldl_cons]at E⊢;obtain⟨z0,hz0⟩:=amb st x;have aCx:∀(l:List α) (st:WS),∃z,(l.foldl f st).1=st.1++z:=by
   intro l;induction l with
   |nil=>intro st;exact⟨[],ar⟩
   |cons a l ih=>intro st;obtain⟨z1,U⟩:=ih (f st a);obtain⟨z2,F⟩:=amb st a;exact⟨z2++z1,by rw[List.foldl_cons,U,F,List.append_assoc]⟩
  obtain⟨z1,hz1⟩:=aCx l (f st x);have hl1:(f st x).1.length<=65535:=by rw[hz1,List.length_append]at E;omega
  obtain⟨s1,s2⟩:=aqb st x (z1++y) hT (hok x (List.mem_cons_self ..)) hl1;obtain⟨⟨z,i1⟩,i2,i3⟩:=Cx f g ok amb aqb l (f st x) y s2 (fun a ha=>hok a (List.mem_cons_of_mem _ ha)) E;refine⟨⟨z0++z1,by rw[hz1,hz0,List.append_assoc]⟩,?_,i3⟩;rw[List.length_cons];unfold sF;rw[<-List.append_assoc,<-hz1]at s1;rw[s1];simp only;rw[i2]
theorem aaf(st:WS)(q:Qn):∃z,(uk st q).1=st.1++z:=⟨sC st.2 st.1.length q.name++rP 2 q.Q++rP 2 q.cl,by simp[uk]⟩
theorem D5(st:WS)(r:RR):∃z,(r7 st r).1=st.1++z:=⟨_,by unfold r7 xF;simp only[List.append_assoc];rfl⟩
theorem QF{m:tq}(h:uf m=0):∀q∈m.qs,qE q=0:=by
 unfold uf at h;cases O:m.hd.ok with
 |false=>rw[if_pos O]at h;cases h
 |true=>
  rw[if_neg (by simp[O])]at h;by_cases U:65535<m.qs.length\/65535<m.an.length\/65535<m.au.length\/65535<m.ex.length
  ·rw[if_pos U]at h;cases h
  ·
   rw[if_neg U]at h;by_cases F:vw (m.qs.map qE)=0
   ·exact fun q hq=>Da F _ (List.mem_map_of_mem hq)
   ·rw[if_pos F]at h;exact absurd h F
theorem Mj(m:tq)(pack:Bool):ua (vx m pack).1 (vx m pack).2:=by
  intro T e;cases pack with
  |false=>cases e
  |true=>(obtain rfl:[]=T:=by simpa[vx]using e);exact Mh _
theorem Oc{m:tq}{r:RR}:r∈m.Em↔r∈m.an\/r∈m.au\/r∈m.ex:=by simp[tq.Em,or_assoc]
theorem QG(m:tq)(pack:Bool)(hw:∀r∈m.Em,r.wf)(hc:uf m=0)(E:(Cc m pack).1.length<=65535):vZ (Cc m pack).1= .ok m:=by
 have ok:=TJ hc;have okq:=QF hc;rw[Vm]at E⊢;have HQ:∀st x y,ua st.1 st.2->qE x=0->(uk st x).1.length<=65535->uC ((uk st x).1++y) st.1.length= .ok (x,(uk st x).1.length)/\ua (uk st x).1 (uk st x).2:=fun st x y U F _=>GW st x y U F
 have HR:∀st x y,ua st.1 st.2->(x.wf/\r8 x=0)->(r7 st x).1.length<=65535->th ((r7 st x).1++y) st.1.length= .ok (x,(r7 st x).1.length)/\ua (r7 st x).1 (r7 st x).2:=fun st x y U F h3=>⟨Xl st x y U F.1 F.2 (Nat.le_trans (aae st x) h3),Jq st x U F.1 F.2⟩
 have okR:∀l:List RR,(∀r∈l,r∈m.Em)->∀r∈l,r.wf/\r8 r=0:=fun l h r hr=>⟨hw r (h r hr),ok.r r (h r hr)⟩
 have oka:=okR m.an (fun r h=>Oc.2 (.inl h));have oku:=okR m.au (fun r h=>Oc.2 (.inr (.inl h)));have oke:=okR m.ex (fun r h=>Oc.2 (.inr (.inr h)));have T0:=Mj m pack;have L0:=Lv m pack;have P0:(vx m pack).1=uB m.hd m.qs.length m.an.length m.au.length m.ex.length:=rfl;generalize vx m pack=s0 at*;obtain⟨s1,U⟩:∃s,m.qs.foldl uk s0=s:=gh;rw[U]at E⊢;obtain⟨s2,F⟩:∃s,m.an.foldl r7 s1=s:=gh;rw[F]at E⊢;obtain⟨s3,h3⟩:∃s,m.au.foldl r7 s2=s:=gh;rw[h3]at E⊢;obtain⟨s4,h4⟩:∃s,m.ex.foldl r7 s3=s:=gh;rw[h4]at E⊢;have l4:=ym m.ex s3;have l3:=ym m.au s2;have l2:=ym m.an s1;have l1:=Ls m.qs s0;rw[h4]at l4;rw[h3]at l3;rw[F]at l2;rw[U]at l1;have A1:=fun y=>Cx uk uC (fun q=>qE q=0) aaf HQ m.qs s0 y T0 okq (by rw[U];omega)
 simp only[U]at A1;have A2:=fun y=>Cx r7 th (fun r=>r.wf/\r8 r=0) D5 HR m.an s1 y (A1 []).2.2 oka (by rw[F];omega)
 simp only[F]at A2;have A3:=fun y=>Cx r7 th (fun r=>r.wf/\r8 r=0) D5 HR m.au s2 y (A2 []).2.2 oku (by rw[h3];omega)
 simp only[h3]at A3;have A4:=fun y=>Cx r7 th (fun r=>r.wf/\r8 r=0) D5 HR m.ex s3 y (A3 []).2.2 oke (by rw[h4];omega)
 simp only[h4]at A4;obtain⟨z4,e4⟩:=(A4 []).1;obtain⟨z3,e3⟩:=(A3 []).1;obtain⟨z2,e2⟩:=(A2 []).1;obtain⟨z1,e1⟩:=(A1 []).1;have B4:=(A4 []).2.1;rw[List.append_nil]at B4;have B3:=(A3 z4).2.1;rw[<-e4]at B3;have B2:=(A2 (z3++z4)).2.1;rw[<-List.append_assoc,<-e3,<-e4]at B2;have B1:=(A1 (z2++(z3++z4))).2.1;rw[<-List.append_assoc,<-List.append_assoc,<-e2,<-e3,<-e4]at B1;have M:s4.1=uB m.hd m.qs.length m.an.length m.au.length m.ex.length++(z1++z2++z3++z4):=by rw[e4,e3,e2,e1,P0];simp
 obtain⟨a0,a2,a4,a6,a8,a10⟩:=acC m.hd m.qs.length m.an.length m.au.length m.ex.length (z1++z2++z3++z4);rw[<-M]at a0 a2 a4 a6 a8 a10;have n2:∀k:Nat,k<=65535->sY (rP 2 (k:Int))=k:=fun k O=>by have:=aaa (k:Int) ⟨Y,Y⟩;omega
 unfold vZ;rw[if_neg Y,if_neg Y,a0,a2,a4,a6,a8,a10,n2 _ ok.lq,n2 _ ok.la,n2 _ ok.lu,n2 _ ok.le,aab _ ok.hd,<-L0,B1];simp only;rw[B2];simp only;rw[B3];simp only;rw[B4];simp only;rw[if_neg (Nat.lt_irrefl _)]
theorem Cy(x:List UInt8)(T:Option z6)(n:List (List UInt8))(hT:ua x T)(b:Int)(hc:rR n=0):(sC T x.length n).length<=(sC none b n).length:=by
 have U:=(yB x T n hT hc).2.2;have F:=(N9 x n hc).1;show _<=(xn n).length;omega
theorem aag(s:List UInt8)(T:Option z6)(r:RR)(hc:r8 r=0)(hT:ua s T)(b:Int):(xQ T s.length r).length<=(xQ none b r).length:=by
 have hE:=(Jp hc).has;unfold wT at hE;unfold xQ;split
 ·exact Nat.le_refl _
 rename_i k1;rw[if_neg k1]at hE;split
 ·exact Nat.le_refl _
 rename_i k2;rw[if_neg k2]at hE;split
 ·rename_i k3;rw[if_pos k3]at hE;exact Cy s T r.tg hT b hE
 rename_i k3;rw[if_neg k3]at hE;split
 ·exact Nat.le_refl _
 rename_i k4;rw[if_neg k4]at hE;split
 ·
  rename_i k5;rw[if_pos k5]at hE;by_cases e1:rR r.tg=0
  ·
   rw[if_neg cJ]at hE;by_cases e2:rR r.ml=0
   ·obtain⟨p1,p2,p3⟩:=yB s T r.tg hT e1;have U:=Cy s T r.tg hT b e1;have hat:((s.length:Int)+((sC T s.length r.tg).length:Int))=(((s++sC T s.length r.tg).length:Nat):Int):=ar;rw[hat];have F:=Cy _ _ r.ml p2 (b+((sC none b r.tg).length:Int)) e2;simp only[List.length_append,tz,Option.map_none]at F⊢;omega
   ·rw[if_pos e2]at hE;exact absurd hE e2
  ·rw[if_pos e1]at hE;exact absurd hE e1
 ·exact Nat.le_refl _
theorem QH:∀(l:List Qn) (st st':WS),(∀q∈l,qE q=0)->ua st.1 st.2->st'.2=none->st.1.length<=st'.1.length->ua (l.foldl uk st).1 (l.foldl uk st).2/\(l.foldl uk st').2=none/\(l.foldl uk st).1.length<=(l.foldl uk st').1.length
 |[],st,st',_,U,F,h3=>⟨U,F,h3⟩
 |q::l,st,st',hq,U,F,h3=>by
  rw[List.foldl_cons,List.foldl_cons];have q0:=hq q (List.mem_cons_self ..);refine QH l (uk st q) (uk st' q) (fun a ha=>hq a (List.mem_cons_of_mem _ ha)) (GW st q [] U q0).2 (by simp[uk,F,tz]) ?_;have:=Cy st.1 st.2 q.name U (st'.1.length:Int) (ad6 q0).1;unfold uk;simp only[List.length_append,rL,F];omega
theorem QJ:∀(l:List RR) (st st':WS),(∀r∈l,r.wf/\r8 r=0)->ua st.1 st.2->st'.2=none->st.1.length<=st'.1.length->ua (l.foldl r7 st).1 (l.foldl r7 st).2/\(l.foldl r7 st').2=none/\(l.foldl r7 st).1.length<=(l.foldl r7 st').1.length
 |[],st,st',_,U,F,h3=>⟨U,F,h3⟩
 |r::l,st,st',hr,U,F,h3=>by
  rw[List.foldl_cons,List.foldl_cons];obtain⟨r0,r1⟩:=hr r (List.mem_cons_self ..);have t2:zz st' r=none:=by simp[zz,F,tz]
  have tt:∀b:Int,Dt none b r=none:=fun b=>by unfold Dt;split<;>(try split)<;>simp[tz]
  refine QJ l (r7 st r) (r7 st' r) (fun a ha=>hr a (List.mem_cons_of_mem _ ha)) (Jq st r U r0 r1) (by show Dt (zz st' r) _ r=none;rw[t2];exact tt _) ?_;have a1:=Cy st.1 st.2 r.name U (st'.1.length:Int) (Jp r1).nm;have h4:=(Ob st r U r1).Ce (rP 2 (yA st r).length);have a2:=aag _ _ r r1 h4 (((xF st' r).length:Int)+2);rw[aad]at a2;have a2':(yA st r).length<=(yA st' r).length:=by unfold yA;rw[t2];exact a2
  have a3:(xF st r).length<=(xF st' r).length:=by unfold xF;simp only[List.length_append,rL,F];omega
  unfold r7;simp only[List.length_append,rL];omega
theorem acD(m:tq)(hw:∀r∈m.Em,r.wf)(hc:uf m=0):(Cc m true).1.length<=(Cc m false).1.length:=by
 have ok:=TJ hc;obtain⟨q1,q2,q3⟩:=QH m.qs (vx m true) (vx m false) (QF hc) (Mj m true) I (Nat.le_refl _);exact(QJ m.Em _ _ (fun r hr=>⟨hw r hr,ok.r r hr⟩) q1 q2 q3).2.2
def aeJ(a:Nat)(s:GS):Prop:=(s.behind=none->a<=s.at')/\(∀b,s.behind=some b->a<b)
theorem Mk{m:List UInt8}{a:Nat}{s:GS}(h:aeJ a s):(∀s',um m s= .go s'->aeJ a s')/\(∀l n,um m s= .ok l n->a<n):=by
 obtain⟨at',size,bound,behind,acc⟩:=s;obtain⟨U,F⟩:=h;simp only at U F;unfold um;simp only;constructor
 ·
  intro s' e
  repeat' split at e
  all_goals first
   |(injection e with e;subst e;cases behind with
     |none=>have:=U I;exact⟨fU,fU⟩
     |some b=>have:=F b I;exact⟨ar,fU⟩)
   |exact GO.noConfusion e
 ·
  intro l n e
  repeat' split at e
  all_goals first
   |(injection e with e1 e2;subst e2;cases behind with
     |none=>have:=U I;simp<;>omega
     |some b=>have:=F b I;simpa using this)
   |exact GO.noConfusion e
theorem aah{m:List UInt8}{a:Nat}{s:GS}{o:GO}(h:zY m s o):aeJ a s->∀l n,o= .ok l n->a<n:=by
 induction h with
 |err e=>intro _ l n he;cases he
 |ok e=>intro hp l n he;injection he with U F;subst U F;exact(Mk hp).2 _ _ e
 |go e _ ih=>intro hp;exact ih ((Mk hp).1 _ e)
theorem aai{m:List UInt8}{a:Nat}{l:List (List UInt8)}{n:Nat}(h:Ca m a= .ok l n):a<n:=by
 unfold Ca at h;cases ho:Ny m a with
 |true=>rw[ho,if_pos I]at h;cases h
 |false=>rw[ho,if_neg ar,Int.toNat_natCast]at h;exact aah (Ib m a) ⟨fun _=>Nat.le_refl _,fun b Z=>by cases Z⟩ _ _ h
theorem Ge{m:List UInt8}{n:List (List UInt8)}(h:vO m p= .ok (n,q)):rR n=0/\p<q/\q<=m.length:=by
 rcases yW m p with⟨l,k,U,F,h3,h4,h5⟩|⟨e,U,F,h3⟩
 ·rw[F]at h;injection h with h;injection h with e1 e2;subst e1 e2;exact⟨Iy h4 h5,aai U,h3⟩
 ·rw[F]at h;cases h
theorem Jr{m:List UInt8}{n:List (List UInt8)}(h:xh m p= .ok (n,q)):rR n=0/\p<q/\q<=m.length:=by
 unfold xh at h;cases U:vO m p with
 |error e=>rw[U]at h;cases h
 |ok y=>obtain⟨l,k⟩:=y;rw[U]at h;injection h with h;injection h with e1 e2;subst e1 e2;exact Ge U
theorem Ml{m:List UInt8}{n:List (List UInt8)}(h:vy m p= .ok n):rR n=0:=by
 unfold vy at h;cases U:xh m p with
 |error e=>rw[U]at h;cases h
 |ok y=>
  obtain⟨l,k⟩:=y;rw[U]at h;simp only at h;split at h
  ·injection h with h;subst h;exact(Jr U).1
  ·cases h
theorem AF{m:List UInt8}{n:Nat}(h:uo m k p= .ok (n,q)):n<256^k/\q=p+k/\q<=m.length:=by
 unfold uo at h;split at h
 ·cases h
 ·rename_i hh;injection h with h;injection h with U F;subst U F;exact⟨yU _ k aB,I,Y⟩
theorem Vv{n:Nat}(h:n<=k):xG (k:Int) (n:Int)=true:=by simp[xG];omega
theorem Uc{n:Nat}(h:n<65536):xG 65535 (n:Int)=true:=Vv (k:=65535) Y
theorem afR{n:Nat}(h:n<4294967296):xG 4294967295 (n:Int)=true:=Vv (k:=4294967295) Y
theorem Ud{m:List UInt8}{q:Qn}(h:uC m p= .ok (q,p')):qE q=0/\p+5<=p'/\p'<=m.length:=by
 unfold uC at h;cases U:vO m p with
 |error e=>rw[U]at h;cases h
 |ok y=>
 obtain⟨n,p1⟩:=y;rw[U]at h;simp only at h;cases F:uo m 2 p1 with
 |error e=>rw[F]at h;cases h
 |ok y=>
 obtain⟨Q,p2⟩:=y;rw[F]at h;simp only at h;cases h3:uo m 2 p2 with
 |error e=>rw[h3]at h;cases h
 |ok y=>
 obtain⟨cl,p3⟩:=y;rw[h3]at h;simp only at h;injection h with h;injection h with e1 e2;obtain⟨a1,a2,a3⟩:=Ge U;obtain⟨b1,b2,b3⟩:=AF F;obtain⟨c1,c2,c3⟩:=AF h3;subst e1 e2;refine⟨?_,Y,c3⟩;unfold qE;rw[if_neg (by simp[a1]),Uc b1,Uc c1];rfl
theorem acE{m:List UInt8}{a n:Nat}{Q cl:Int}{r:RR}(h:wN m a n Q cl= .ok r)(ha:a+n<=m.length)(hm:m.length<=65535)(r':RR)
  (hr:∃nm ttl,rR nm=0/\xG 4294967295 ttl=true/\r'={r with name:=nm,Q:=Q,cl:=cl,ttl:=ttl}) (hty:xG 65535 Q=true) (hcl:xG 65535 cl=true):r8 r'=0/\r'.wf:=by
 obtain⟨nm,ttl,hnm,al9,rfl⟩:=hr;have hd:((m.take (a+n)).drop a).length=n:=aB;have hz:(List.replicate 16 (0:UInt8)).length=16:=rfl;have key:∀r0:RR,r0.Q=Q->r0.cl=cl->rR r0.name=0->xG 4294967295 r0.ttl=true->wT r0=0->zF (vL r0)=true->r8 r0=0:=by intro r0 e1 e2 e3 e4 e5 e6;exact aeI ⟨e3,by rw[e1];exact hty,by rw[e2];exact hcl,e4,e5,e6⟩
 unfold wN at h;split at h
 ·
  rename_i k1;split at h
  ·
   rename_i hn;injection h with h;subst h;refine⟨key _ I I hnm al9 ?_ ?_,by simp only[RR.wf,RR.zero];simp;omega⟩
   ·
    unfold wT;simp only[k1,if_true];have:(sg.check ⟨4,(m.take (a+n)).drop a++List.replicate 12 0,0⟩)=0:=by unfold sg.check;simp only[if_true];rw[if_pos ⟨by rw[<-hn];exact List.drop_left' hd,trivial⟩]
    rw[this];simp
   ·unfold vL;simp only[k1,true_or,if_true,zF,RR.zero];first|decide|rfl|simp
  ·cases h
 rename_i k1;split at h
 ·
  rename_i k2;split at h
  ·
   rename_i hn;injection h with h;subst h;refine⟨key _ I I hnm al9 ?_ ?_,by simp only[RR.wf,RR.zero];simp;omega⟩
   ·
    unfold wT;simp only[k1,k2,if_true,if_false];have:(sg.check ⟨6,(m.take (a+n)).drop a,0⟩)=0:=by unfold sg.check;simp
    rw[this];simp
   ·unfold vL;simp only[k2,or_true,if_true,zF,RR.zero];first|decide|rfl|simp
  ·cases h
 rename_i k2;have k12:¬(sf Q cl=1\/sf Q cl=28):=Y;split at h
 ·
  rename_i k3;split at h
  ·cases h
  ·
   rename_i l ht;injection h with h;subst h;refine⟨key _ I I hnm al9 ?_ ?_,⟨I,I⟩⟩
   ·unfold wT;simp only[k1,k2,k3,if_true,if_false];exact Ml ht
   ·unfold vL;simp only[k12,k3,if_true,if_false,zF,RR.zero];first|decide|rfl|simp
 rename_i k3;split at h
 ·
  rename_i k4;split at h
  ·cases h
  ·
   rename_i hn;split at h
   ·cases h
   ·
    rename_i l ht;injection h with h;subst h;refine⟨key _ I I hnm al9 ?_ ?_,⟨I,I⟩⟩
    ·unfold wT;simp only[k1,k2,k3,k4,if_true,if_false];have e1:=Uc (yU (((m.take (a+n)).drop a).take 2) 2 aB);have e2:=Uc (yU ((((m.take (a+n)).drop a).drop 2).take 2) 2 aB);have e3:=Uc (yU ((((m.take (a+n)).drop a).drop 4).take 2) 2 aB);simp only[List.all_cons,List.all_nil,e1,e2,e3,Bool.and_true,if_true];exact Ml ht
    ·unfold vL;simp only[k12,k3,k4,if_true,if_false,zF,RR.zero];first|decide|rfl|simp
 rename_i k4;split at h
 ·
  rename_i k5;cases U:xh (m.take (a+n)) a with
  |error e=>rw[U]at h;cases h
  |ok y=>
  obtain⟨l,p⟩:=y;rw[U]at h;simp only at h;cases F:xh (m.take (a+n)) p with
  |error e=>rw[F]at h;cases h
  |ok y=>
  obtain⟨l',q⟩:=y;rw[F]at h;simp only at h;split at h
  ·
   injection h with h;subst h;refine⟨key _ I I hnm al9 ?_ ?_,⟨I,I⟩⟩
   ·
    unfold wT;simp only[k1,k2,k3,k4,k5,if_true,if_false];have e:∀x:List UInt8,xG 4294967295 (sY (x.take 4):Int)=true:=fun x=>afR (yU _ 4 aB)
    simp only[DU,List.all_cons,List.all_nil,e,Bool.and_true,if_true];rw[if_neg K,if_neg K,(Jr U).1,(Jr F).1];rfl
   ·unfold vL;simp only[k12,k3,k4,k5,if_true,if_false,zF,RR.zero];first|decide|rfl|simp
  ·cases h
 rename_i k5;injection h with h;subst h;refine⟨key _ I I hnm al9 ?_ ?_,⟨I,I⟩⟩
 ·unfold wT;simp only[k1,k2,k3,k4,k5,if_false];rw[if_neg (by rw[hd];omega)]
 ·unfold vL;simp only[k12,k3,k4,k5,if_false,zF,RR.zero];first|decide|rfl|simp
theorem Js{m:List UInt8}{r:RR}(hm:m.length<=65535)(h:th m p= .ok (r,p')):(r8 r=0/\r.wf)/\p+11<=p'/\p'<=m.length:=by
 unfold th at h;cases U:vO m p with
 |error e=>rw[U]at h;cases h
 |ok y=>
 obtain⟨n,p1⟩:=y;rw[U]at h;simp only at h;cases F:uo m 2 p1 with
 |error e=>rw[F]at h;cases h
 |ok y=>
 obtain⟨Q,p2⟩:=y;rw[F]at h;simp only at h;cases h3:uo m 2 p2 with
 |error e=>rw[h3]at h;cases h
 |ok y=>
 obtain⟨cl,p3⟩:=y;rw[h3]at h;simp only at h;cases h4:uo m 4 p3 with
 |error e=>rw[h4]at h;cases h
 |ok y=>
 obtain⟨ttl,p4⟩:=y;rw[h4]at h;simp only at h;cases h5:uo m 2 p4 with
 |error e=>rw[h5]at h;cases h
 |ok y=>
 obtain⟨sz,p5⟩:=y;rw[h5]at h;simp only at h;split at h
 ·cases h
 rename_i hsz;cases h6:wN m p5 sz Q cl with
 |error e=>rw[h6]at h;cases h
 |ok r0=>
 rw[h6]at h;simp only at h;injection h with h;injection h with e1 e2;obtain⟨a1,a2,a3⟩:=Ge U;obtain⟨b1,b2,b3⟩:=AF F;obtain⟨c1,c2,c3⟩:=AF h3;obtain⟨d1,d2,d3⟩:=AF h4;obtain⟨f1,f2,f3⟩:=AF h5;refine⟨acE h6 Y hm r ⟨n,ttl,a1,afR d1,e1.symm⟩ (Uc b1) (Uc c1),Y,Y⟩
theorem EX{α:Type}{g:Nat->Except Int (α×Nat)}{P:α->Prop}{c len:Nat}(hg:∀p x p',g p= .ok (x,p')->P x/\p+c<=p'/\p'<=len):
  ∀(k p:Nat) (l:List α) (p':Nat),sF g k p= .ok (l,p')->p<=len->(∀x∈l,P x)/\l.length=k/\p+c*k<=p'/\p'<=len
 |0,p,l,p',h,hp=>by
  unfold sF at h;injection h with h;injection h with e1 e2;subst e1 e2;exact⟨(fun x hx=>by cases hx),I,Y,hp⟩
 |k+1,p,l,p',h,hp=>by
  unfold sF at h;cases U:g p with
  |error e=>rw[U]at h;cases h
  |ok y=>
  obtain⟨x,p1⟩:=y;rw[U]at h;simp only at h;cases F:sF g k p1 with
  |error e=>rw[F]at h;cases h
  |ok y=>
  obtain⟨l1,p2⟩:=y;rw[F]at h;simp only at h;injection h with h;injection h with e1 e2;obtain⟨a1,a2,a3⟩:=hg _ _ _ U;obtain⟨b1,b2,b3,b4⟩:=EX hg k p1 l1 p2 F a3;subst e1 e2;refine⟨fun y hy=>?_,by simp[b2],by rw[Nat.mul_succ];omega,b4⟩;rcases List.mem_cons.1 hy with rfl|hy
  ·exact a1
  ·exact b1 y hy
theorem acF(a b:Nat)(ha:a<65536)(Z:b<65536):(Fz a b).ok=true:=by
 rw[Gd];simp only[Fz];omega
theorem acG{s:List UInt8}{m:tq}(h:vZ s= .ok m):uf m=0/\(∀r∈m.Em,r.wf)/\12+5*m.qs.length+11*m.Em.length<=s.length/\s.length<=65535:=by
 unfold vZ at h;split at h
 ·cases h
 rename_i E;split at h
 ·cases h
 rename_i hs;cases U:sF (uC s) (xp s 4) 12 with
 |error e=>rw[U]at h;cases h
 |ok y=>
 obtain⟨q,p1⟩:=y;rw[U]at h;simp only at h;cases F:sF (th s) (xp s 6) p1 with
 |error e=>rw[F]at h;cases h
 |ok y=>
 obtain⟨a,p2⟩:=y;rw[F]at h;simp only at h;cases h3:sF (th s) (xp s 8) p2 with
 |error e=>rw[h3]at h;cases h
 |ok y=>
 obtain⟨u,p3⟩:=y;rw[h3]at h;simp only at h;cases h4:sF (th s) (xp s 10) p3 with
 |error e=>rw[h4]at h;cases h
 |ok y=>
 obtain⟨x,p4⟩:=y;rw[h4]at h;simp only at h;split at h
 ·cases h
 injection h with h;have q0:=yK s 4;have q1:=yK s 6;have q2:=yK s 8;have q3:=yK s 10;have hq:=acF _ _ (yK s 0) (yK s 2);obtain⟨a1,a2,a3,a4⟩:=EX (fun p x p' h=>Ud (m:=s) h) _ _ _ _ U Y;obtain⟨b1,b2,b3,b4⟩:=EX (fun p x p' h=>Js (m:=s) Y h) _ _ _ _ F a4;obtain⟨c1,c2,c3,c4⟩:=EX (fun p x p' h=>Js (m:=s) Y h) _ _ _ _ h3 b4;obtain⟨d1,d2,d3,d4⟩:=EX (fun p x p' h=>Js (m:=s) Y h) _ _ _ _ h4 c4;have hr:∀r∈a++u++x,r8 r=0/\r.wf:=by
  intro r hr;simp only[List.mem_append]at hr;rcases hr with(hr|hr)|hr
  ·exact b1 r hr
  ·exact c1 r hr
  ·exact d1 r hr
 subst h;refine⟨?_,fun r hr'=>(hr r hr').2,?_,Y⟩
 ·unfold uf;simp only[hq];rw[if_neg ar,if_neg Y];have e1:vw (q.map qE)=0:=NS (fun j hj=>by rw[List.getElem_map];exact a1 _ (List.getElem_mem _));have e2:vw ((a++u++x).map r8)=0:=NS (fun j hj=>by rw[List.getElem_map];exact(hr _ (List.getElem_mem _)).1);rw[if_neg cJ];exact e2
 ·simp only[tq.Em,List.length_append];omega
end Go.Proofs.YtakkipnmpmobbaaGreat
