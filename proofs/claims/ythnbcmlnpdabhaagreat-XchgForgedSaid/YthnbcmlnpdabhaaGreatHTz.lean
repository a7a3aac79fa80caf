/-
  Layer 11 (head):a head and its counts,read.
-/
import Derived.Test.YthnbcmlnpdabhaaGreatGAz
namespace Go.Proofs.YthnbcmlnpdabhaaGreat
open _root_.Go.Proofs.Tryz
set_option maxHeartbeats 8000000
open Go.RowKit
set_option maxRecDepth 100000
structure Hd where
 id:Int
 qr:Bool
 op:Int
 aa:Bool
 tc:Bool
 rd:Bool
 ra:Bool
 ad:Bool
 cd:Bool
 rc:Int
deriving DecidableEq
def Hd.vJ(h:Hd):List Value:=[.int .i64 h.id,.bool h.qr,.int .i64 h.op,.bool h.aa,.bool h.tc,.bool h.rd,.bool h.ra,.bool h.ad,.bool h.cd,.int .i64 h.rc]
def Hd.agg(h:Hd):Value:=.agg #[.int .i64 h.id,.bool h.qr,.int .i64 h.op,.bool h.aa,.bool h.tc,.bool h.rd,.bool h.ra,.bool h.ad,.bool h.cd,.int .i64 h.rc]
def Hd.zero:Hd:=⟨0,false,0,false,false,false,false,false,false,0⟩
def ye(a b c d:Int):Value:=.agg #[.int .i64 a,.int .i64 b,.int .i64 c,.int .i64 d]
theorem Mu(l:List UInt8)(w:World)(hl:l.length<12):Calls prog 213 #[.string (bs l)] w (uf (.tuple #[Hd.zero.agg,ye 0 0 0 0,.int .i64 1]) w):=by
 have hl':(l.length:Int)<12:=I;go_enter func213,ntmps213;go_wp2_with fail;go_region;go_wp2_with fail;refine bodyPost_ret (v:=.tuple #[Hd.zero.agg,ye 0 0 0 0,.int .i64 1]) (by simp[results,Tryz.results213,go_sem,Hd.agg,Hd.zero,ye]) J (uf.mk J aw)
theorem YK(g:Nat)(rest:List UInt8)(w:World)(h:zV w g rest false)(hl:rest.length<=maxLen)(X:2<=rest.length):
  Calls prog 177 #[.pointer (some ⟨g,0,none⟩),.int .i64 2] w (Kk (.int .i64 (uN (rest.take 2))) g (rest.drop 2) false w):=by
 exact pO
def xO(l:List UInt8)(k:Nat):Nat:=uN ((l.drop k).take 2)
theorem yU(l:List UInt8)(k:Nat):xO l k<65536:=Af _ 2 az
def zZ(n:Nat)(k:Nat):Bool:=n/k%2==1
def Eg(id n:Nat):Hd:=⟨id,zZ n 32768,(n:Int)/2048%16,zZ n 1024,zZ n 512,zZ n 256,zZ n 128,zZ n 32,zZ n 16,(n:Int)%16⟩
theorem Ve(a b:Nat)(ha:a<65536)(F:b<65536):bits .and .i64 (a:Int) (b:Int)=((a&&&b:Nat):Int):=by
 have hx:a&&&b<2^16:=Nat.and_lt_two_pow _ I;show IntKind.i64.wrap ((BitVec.ofInt 64 (a:Int)&&&BitVec.ofInt 64 (b:Int)).toNat:Int)=_;rw[BitVec.toNat_and,BitVec.ofInt_natCast,BitVec.ofInt_natCast,BitVec.toNat_ofNat,BitVec.toNat_ofNat,Nat.mod_eq_of_lt I,Nat.mod_eq_of_lt I,IntKind.wrap_i64];omega
theorem DH(n k:Nat)(hn:n<65536)(O:2^k<65536):(bits .and .i64 (n:Int) ((2^k:Nat):Int) !=0)=zZ n (2^k):=by
 rw[Ve n _ hn O];have U:(n&&&2^k=0)↔n.testBit k=false:=by
  constructor
  ·intro h;have:=congrArg (fun x=>x.testBit k) h;simpa[Nat.testBit_and,Nat.testBit_two_pow_self]using this
  ·
   intro h;apply Nat.eq_of_testBit_eq;intro i;rw[Nat.testBit_and,Nat.testBit_two_pow];by_cases hi:k=i
   ·subst hi;simp[h]
   ·simp[hi]
 have X:n.testBit k=zZ n (2^k):=by rw[Nat.testBit_eq_decide_div_mod_eq];unfold zZ;rw[Bool.eq_iff_iff];simp
 rw[<-X];cases h:n.testBit k
 ·have:=U.2 h;simp[this]
 ·
  have:n&&&2^k≠0:=fun e=>by rw[U.1 e]at h;cases h
  simp;omega
theorem YL(n:Nat)(hn:n<65536):bits .and .i64 (n:Int) 15=((n%16:Nat):Int):=by
 have:=Ve n 15 hn I;rw[show((15:Nat):Int)=15 from J]at this;rw[this,show(15:Nat)=2^4-1 from J,Nat.and_two_pow_sub_one_eq_mod]
def KT(l:List UInt8)(k:Nat):List Value:=[.int .i64 (if 0<k then xO l 4 else 0:Nat),.int .i64 (if 1<k then xO l 6 else 0:Nat),.int .i64 (if 2<k then xO l 8 else 0:Nat),.int .i64 (if 3<k then xO l 10 else 0:Nat)]
theorem YM(l:List UInt8)(k:Nat)(O:k<4):(KT l k).set k (.int .i64 (xO l (4+2*k):Nat))=KT l (k+1):=by
 have:k=0\/k=1\/k=2\/k=3:=I;rcases this with rfl|rfl|rfl|rfl<;>rfl
theorem YN(l:List UInt8)(k:Nat)(O:k<4):∃u:Int,(KT l k)[k]?=some (.int .i64 u):=by
 have:k=0\/k=1\/k=2\/k=3:=I;rcases this with rfl|rfl|rfl|rfl<;>exact⟨_,J⟩
theorem Tw(l:List UInt8)(k:Nat)(O:k+2<=12):((l.take 12).drop k).take 2=(l.drop k).take 2:=by
 rw[List.drop_take,List.take_take];congr 1;omega
def YO(w:World)(l:List UInt8)(k:Nat)(wr:World):Prop:=
 Z wr w.heap.size 46 Hd.zero.vJ/\Z wr (w.heap.size+1) 210 (KT l 0)/\Z wr (w.heap.size+1+1) 210 (KT l k)/\
  zV wr (w.heap.size+1+1+1) ((l.take 12).drop (4+2*k)) false/\al w wr
theorem OT(l:List UInt8)(w:World)(hl:12<=l.length)(hm:l.length<=maxLen):
  Calls prog 213 #[.string (bs l)] w (uf (.tuple #[(Eg (xO l 0) (xO l 2)).agg,ye (xO l 4) (xO l 6) (xO l 8) (xO l 10),.int .i64 0]) w):=by
 have hl':(12:Int)<=l.length:=I;have hl2:¬(l.length:Int)<12:=I;have h12:(l.take 12).length=12:=az;have axR:(l.take 12).length<=maxLen:=I;have H12:=Y h12;clear h12;go_enter func213,ntmps213;go_wp2_with fail;refine(Dz (l.take 12) _).mono ?_;rintro e w1 ⟨rfl,hE,F⟩;have k0:Z w1 w.heap.size 46 Hd.zero.vJ:=(((Z.new w _ Hd.zero.vJ).alloc _).alloc _).G F az;have k1:Z w1 (w.heap.size+1) 210 (KT l 0):=((Z.vP _ _ (KT l 0) _ ap).alloc _).G F ap;have k2:Z w1 (w.heap.size+1+1) 210 (KT l 0):=(Z.vP _ _ (KT l 0) _ ap).G F ap;have hB:al w w1:=((((Below.refl _ _).alloc (Nat.le_refl _) _).alloc ap _).alloc az _).trans (F.mono az);clear F;simp only[World.size_alloc]at hE⊢;go_wp2_with fail;refine(YK _ _ _ hE axR (by rw[H12.out];omega)).mono ?_;rintro e w2 ⟨rfl,hE2,hg2⟩;have hB2:=tN hB hg2 hB.size I;have m0:=k0.grown hg2 az;have m1:=k1.grown hg2 ap;have m2:=k2.grown hg2 ap;clear k0 k1 k2 hB hE hg2;rw[show uN (List.take 2 (List.take 12 l))=xO l 0 from by rw[xO,<-Tw l 0 I];rfl];go_wp2_with fail;refine(YK _ _ _ hE2 bG bH).mono ?_;rintro e w3 ⟨rfl,hE3,hg3⟩;rw[Tw l 2 I,show uN (List.take 2 (List.drop 2 l))=xO l 2 from J];have hinv:YO w l 0 w3:=⟨m0.grown hg3 az,m1.grown hg3 ap,m2.grown hg3 ap,by rw[List.drop_drop]at hE3;exact hE3,tN hB2 hg3 hB2.size I⟩;clear m0 m1 m2 hB2 hE2 hg3 hE3;have af8:=yU l 2;generalize aw0:xO l 0=n0 at*;generalize awZ:xO l 2=n2 at*;clear aw0 awZ w2 w1;go_wp2_with fail;go_loopw[23] (fun i wr=>∃k:Nat,k<=4/\i= .int .i64 k/\YO w l k wr) (fun i _=>4-(intOf i).toNat)
 case atStart=>exact⟨0,I,J,hinv⟩
 case round=>
  obtain⟨k,O,rfl,q0,q1,q2,q3,q4⟩:=hrel;clear hinv;by_cases Hh:k<4
  ·
   have tQ:(k:Int)<4:=I;go_wp2_with fail;refine(YK _ _ _ q3 bG bH).mono ?_;rintro e w4 ⟨rfl,hE4,hg4⟩;rw[Tw l (4+2*k) I,show uN (List.take 2 (List.drop (4+2*k) l))=xO l (4+2*k)from J];have r0:=q0.grown hg4 az;have r1:=q1.grown hg4 ap;have r2:=q2.grown hg4 ap;have r4:=tN q4 hg4 q4.size I;obtain⟨u,hu⟩:=YN l k Hh;have hc:=r2.K k hu;have hf:=r2.frozen k;clear q0 q1 q2 q3 q4 hg4;go_wp2_with fail;go_roundw
   case rel=>refine⟨k+1,I,fU,r0.yG az _,r1.yG ap _,by rw[<-YM l k Hh];exact r2.set k _,?_,r4.setCell az _⟩;have:=hE4.yG (p:=⟨w.heap.size+1+1,k,none⟩) ap (.int .i64 (xO l (4+2*k):Nat));rw[List.drop_drop]at this;exact this
   case measure=>simp[intOf];omega
  ·
   obtain rfl:k=4:=I;have tQ:¬((4:Nat):Int)<4:=I;have g15:(bits .and .i64 (n2:Int) 32768 !=0)=zZ n2 32768:=DH n2 15 af8 ax;have g10:(bits .and .i64 (n2:Int) 1024 !=0)=zZ n2 1024:=DH n2 10 af8 ax;have g9:(bits .and .i64 (n2:Int) 512 !=0)=zZ n2 512:=DH n2 9 af8 ax;have g8:(bits .and .i64 (n2:Int) 256 !=0)=zZ n2 256:=DH n2 8 af8 ax;have g7:(bits .and .i64 (n2:Int) 128 !=0)=zZ n2 128:=DH n2 7 af8 ax;have g5:(bits .and .i64 (n2:Int) 32 !=0)=zZ n2 32:=DH n2 5 af8 ax;have g4:(bits .and .i64 (n2:Int) 16 !=0)=zZ n2 16:=DH n2 4 af8 ax;have gop:bits .and .i64 ((n2:Int)/2048) 15=((n2/2048%16:Nat):Int):=by have:=YL (n2/2048) I;rw[<-this];congr 1
   have grc:bits .and .i64 (n2:Int) 15=((n2%16:Nat):Int):=YL n2 af8;go_wp2_with fail;obtain⟨W,hW⟩:∃W,W=wr.alloc (.cells (Eg n0 n2).vJ.toArray 46):=gp;show Code.wp _ _ _ _ (wr.alloc (.cells (Eg n0 n2).vJ.toArray 46));rw[<-hW];have p0:Z W w.heap.size 46 Hd.zero.vJ:=hW▸q0.alloc _;have p1:Z W (w.heap.size+1) 210 (KT l 0):=hW▸q1.alloc _;have p2:Z W (w.heap.size+1+1) 210 (KT l 4):=hW▸q2.alloc _;have p3:Z W wr.heap.size 46 (Eg n0 n2).vJ:=hW▸Z.new _ _ _;have hBW:al w W:=hW▸q4.alloc q4.size _;clear hW q0 q1 q2 q3 q4 g15 g10 g9 g8 g7 g5 g4 gop grc;have c00:=p0.K 0 J;have f00:=p0.frozen 0;have c30:=p3.K 0 J;have c01:=p0.K 1 J;have f01:=p0.frozen 1;have c31:=p3.K 1 J;have c02:=p0.K 2 J;have f02:=p0.frozen 2;have c32:=p3.K 2 J;have c03:=p0.K 3 J;have f03:=p0.frozen 3;have c33:=p3.K 3 J;have c04:=p0.K 4 J;have f04:=p0.frozen 4;have c34:=p3.K 4 J;have c05:=p0.K 5 J;have f05:=p0.frozen 5;have c35:=p3.K 5 J;have c06:=p0.K 6 J;have f06:=p0.frozen 6;have c36:=p3.K 6 J;have c07:=p0.K 7 J;have f07:=p0.frozen 7;have c37:=p3.K 7 J;have c08:=p0.K 8 J;have f08:=p0.frozen 8;have c38:=p3.K 8 J;have c09:=p0.K 9 J;have f09:=p0.frozen 9;have c39:=p3.K 9 J;have c10:=p1.K 0 J;have f10:=p1.frozen 0;have c20:=p2.K 0 J;have c11:=p1.K 1 J;have f11:=p1.frozen 1;have c21:=p2.K 1 J;have c12:=p1.K 2 J;have f12:=p1.frozen 2;have c22:=p2.K 2 J;have c13:=p1.K 3 J;have f13:=p1.frozen 3;have c23:=p2.K 3 J;simp only[Nat.zero_lt_succ,if_true,show((1:Nat)<4)=True by decide,show((2:Nat)<4)=True by decide,show((3:Nat)<4)=True by decide]at c20 c21 c22 c23;go_region;go_wp2_with fail;refine bodyPost_ret (v:=.tuple #[(Eg n0 n2).agg,ye (xO l 4) (xO l 6) (xO l 8) (xO l 10),.int .i64 0]) (by simp[results,Tryz.results213,go_sem,Hd.agg,ye,c00,c01,c02,c03,c04,c05,c06,c07,c08,c09,c10,c11,c12,c13]) J (uf.mk J ?_);clear p0 p1 p2 p3;clear c00 f00 c30 c01 f01 c31 c02 f02 c32 c03 f03 c33 c04 f04 c34 c05 f05 c35 c06 f06 c36 c07 f07 c37 c08 f08 c38 c09 f09 c39 c10 f10 c20 c11 f11 c21 c12 f12 c22 c13 f13 c23;go_grown
theorem OU(l:List UInt8)(w:World)(hl:l.length<12):Calls prog 120 #[.string (bs l)] w (uf (.tuple #[Hd.zero.agg,ye 0 0 0 0,.int .i64 1]) w):=by
 have hl':(l.length:Int)<12:=I;go_enter func120,ntmps120;go_wp2_with fail;go_region;go_wp2_with fail;refine bodyPost_ret (v:=.tuple #[Hd.zero.agg,ye 0 0 0 0,.int .i64 1]) (by simp[results,Tryz.results120,go_sem,Hd.agg,Hd.zero,ye]) J (uf.mk J aw)
theorem Df(l:List UInt8)(k j:Nat)(h:j=k+2):uN ((l.take j).drop k)=xO l k:=by
 subst h;rw[xO,List.drop_take];congr 2;omega
theorem Jm(n k:Nat):((n:Int)/(k:Int)%2==1)=zZ n k:=by
 unfold zZ;rw[Bool.eq_iff_iff];simp only[beq_iff_eq];constructor<;>intro h<;>omega
theorem Qu(l:List UInt8)(w:World)(hl:12<=l.length):
  Calls prog 120 #[.string (bs l)] w (uf (.tuple #[(Eg (xO l 0) (xO l 2)).agg,ye (xO l 4) (xO l 6) (xO l 8) (xO l 10),.int .i64 0]) w):=by
 have hl':(12:Int)<=l.length:=I;have hl2:¬(l.length:Int)<12:=I;go_enter func120,ntmps120;go_wp2_with fail;refine(xW _ _ az).mono ?_;rintro e w' ⟨rfl,rfl⟩;rw[Df l 2 4 J];go_wp2_with fail;refine(xW _ _ az).mono ?_;rintro e w' ⟨rfl,rfl⟩;rw[show uN (List.take 2 l)=xO l 0 from J];have af8:=yU l 2;generalize xO l 0=n0 at*;generalize xO l 2=n2 at*;have axS:((n2:Int)/32768%2==1)=zZ n2 32768:=Jm n2 32768;have aBy:((n2:Int)/1024%2==1)=zZ n2 1024:=Jm n2 1024;have aGd:((n2:Int)/512%2==1)=zZ n2 512:=Jm n2 512;have aGg:((n2:Int)/256%2==1)=zZ n2 256:=Jm n2 256;have aGi:((n2:Int)/128%2==1)=zZ n2 128:=Jm n2 128;have g32:((n2:Int)/32%2==1)=zZ n2 32:=Jm n2 32;have g16:((n2:Int)/16%2==1)=zZ n2 16:=Jm n2 16;go_wp2_with fail;refine wp_loop_rounds 5 ?_;rw[rounds_succ];go_wp2_with fail;refine(xW _ _ az).mono ?_;rintro e w' ⟨rfl,rfl⟩;rw[Df l 4 6 J];go_wp2_with fail;rw[rounds_succ];go_wp2_with fail;refine(xW _ _ az).mono ?_;rintro e w' ⟨rfl,rfl⟩;rw[Df l 6 8 J];go_wp2_with fail;rw[rounds_succ];go_wp2_with fail;refine(xW _ _ az).mono ?_;rintro e w' ⟨rfl,rfl⟩;rw[Df l 8 10 J];go_wp2_with fail;rw[rounds_succ];go_wp2_with fail;refine(xW _ _ az).mono ?_;rintro e w' ⟨rfl,rfl⟩;rw[Df l 10 12 J];go_wp2_with fail;rw[rounds_succ];go_wp2_with fail;go_region;go_wp2_with fail;refine bodyPost_ret (v:=.tuple #[(Eg n0 n2).agg,ye (xO l 4) (xO l 6) (xO l 8) (xO l 10),.int .i64 0]) (by simp[results,Tryz.results120,go_sem,Hd.agg,ye,Eg]) J (uf.mk J aw)
theorem KU(n m:Int)(w:World):Calls prog 207 #[.int .i64 n,.int .i64 m] w (yi (.bool (decide (0<=n/\n<=m))) w):=by
 by_cases h0:0<=n
 ·
  by_cases U:n<=m;all_goals
   go_enter func207,ntmps207;go_wp2;go_ret;exact yi.mk (zD (by simp[h0,U])) J
 ·go_enter func207,ntmps207;go_wp2;go_ret;exact yi.mk (zD az) J
theorem xk(n m:Int)(w:World)(h:0<=n/\n<=m):Calls prog 207 #[.int .i64 n,.int .i64 m] w (yi (.bool true) w):=by
 have:=KU n m w;rwa[decide_eq_true h]at this
theorem Bv(n m:Int)(w:World)(h:¬(0<=n/\n<=m)):Calls prog 207 #[.int .i64 n,.int .i64 m] w (yi (.bool false) w):=by
 have:=KU n m w;rwa[decide_eq_false h]at this
def Hd.ok(h:Hd):Bool:=decide (0<=h.id/\h.id<=65535)&&decide (0<=h.op/\h.op<=15)&&decide (0<=h.rc/\h.rc<=15)
def wN(b:Bool)(n:Int):Int:=if b then n else 0
theorem uK(b:Bool)(n:Int)(h:0<=n):0<=wN b n/\wN b n<=n:=by cases b<;>simp[wN]<;>omega
theorem Ho(b:Bool)(n:Int)(w:World):Calls prog 206 #[.bool b,.int .i64 n] w (yi (.int .i64 (wN b n)) w):=by
 cases b;all_goals
  go_enter func206,ntmps206;go_wp2;exact o7
theorem YP(b:Bool)(n:Int)(w:World):Calls prog 162 #[.bool b,.int .i64 n] w (yi (.int .i64 (wN b n)) w):=by
 cases b;all_goals
  go_enter func162,ntmps162;go_wp2;exact o7
theorem z5(h:Hd)(w:World):Calls prog 203 #[h.agg] w (uf (.int .i64 (if h.ok then 0 else 4)) w):=by
 obtain⟨id,qr,op,aa,tc,rd,ra,ad,cd,rc⟩:=h;simp only[Hd.agg];by_cases U:0<=id/\id<=65535
 ·
  by_cases X:0<=op/\op<=15
  ·
   by_cases h3:0<=rc/\rc<=15
   ·rw[show Hd.ok _=true by simp[Hd.ok,U,X,h3]];go_enter func203,ntmps203;go_wp2_with(go_at_call 207;refine(xk _ _ _ aV).mono ?_;rintro e w' ⟨rfl,rfl⟩);exact qz
   ·rw[show Hd.ok _=false by simp[Hd.ok,U,X,h3]];exact qg
  ·rw[show Hd.ok _=false by simp[Hd.ok,U,X]];exact qg
 ·rw[show Hd.ok _=false by simp[Hd.ok,U]];go_enter func203,ntmps203;go_wp2_with(go_at_call 207;refine(Bv _ _ _ aV).mono ?_;rintro e w' ⟨rfl,rfl⟩);exact qz
theorem DI(h:Hd)(w:World):Calls prog 158 #[h.agg] w (uf (.int .i64 (if h.ok then 0 else 4)) w):=by
 obtain⟨id,qr,op,aa,tc,rd,ra,ad,cd,rc⟩:=h;simp only[Hd.agg];by_cases U:id<0
 ·exact pc
 by_cases X:65535<id
 ·exact pc
 by_cases h3:op<0
 ·exact pc
 by_cases h4:15<op
 ·exact pc
 by_cases h5:rc<0
 ·exact pc
 by_cases h6:15<rc
 ·exact pc
 ·rw[show Hd.ok _=true by simp[Hd.ok];omega];go_enter func158,ntmps158;go_wp2;exact qz
def Hd.num(h:Hd):Int:=wN h.qr 32768+h.op*2048+wN h.aa 1024+wN h.tc 512+wN h.rd 256+wN h.ra 128+wN h.ad 32+wN h.cd 16+h.rc
def wW(h:Hd)(c0 c1 c2 c3:Int):List UInt8:=tT 2 h.id++tT 2 h.num++tT 2 c0++tT 2 c1++tT 2 c2++tT 2 c3
theorem Qv(h:Hd)(c0 c1 c2 c3:Int)(w:World)(O:h.ok=false):
  Calls prog 166 #[h.agg,ye c0 c1 c2 c3] w (uf (.tuple #[.string (bs []),.int .i64 4]) w):=by
 simp only[Hd.agg,ye];go_enter func166,ntmps166;go_wp2_with fail;refine(z5 h _).mono ?_;rw[O];exact sk
theorem TA(h:Hd)(c0 c1 c2 c3:Int)(w:World)(O:h.ok=true)(g0:0<=c0/\c0<=65535)(g1:0<=c1/\c1<=65535)(g2:0<=c2/\c2<=65535)(g3:0<=c3/\c3<=65535):
  Calls prog 166 #[h.agg,ye c0 c1 c2 c3] w (uf (.tuple #[.string (bs (wW h c0 c1 c2 c3)),.int .i64 0]) w):=by
 have hr:(0<=h.id/\h.id<=65535)/\(0<=h.op/\h.op<=15)/\(0<=h.rc/\h.rc<=15):=ij;obtain⟨⟨i0,i1⟩,⟨o0,o1⟩,⟨r0,r1⟩⟩:=hr;have i10:∀w:World,(Instr.index 210 (.agg #[.int .i64 c0,.int .i64 c1,.int .i64 c2,.int .i64 c3]) (.int .i64 0)).run prog w= .ok (.int .i64 c0) w:=fun _=>by kernel_rfl
 have i11:∀w:World,(Instr.index 210 (.agg #[.int .i64 c0,.int .i64 c1,.int .i64 c2,.int .i64 c3]) (.int .i64 1)).run prog w= .ok (.int .i64 c1) w:=fun _=>by kernel_rfl
 have i12:∀w:World,(Instr.index 210 (.agg #[.int .i64 c0,.int .i64 c1,.int .i64 c2,.int .i64 c3]) (.int .i64 2)).run prog w= .ok (.int .i64 c2) w:=fun _=>by kernel_rfl
 have i13:∀w:World,(Instr.index 210 (.agg #[.int .i64 c0,.int .i64 c1,.int .i64 c2,.int .i64 c3]) (.int .i64 3)).run prog w= .ok (.int .i64 c3) w:=fun _=>by kernel_rfl
 have HK:=Y O;clear O;simp only[Hd.agg,ye];go_enter func166,ntmps166;go_wp2_with fail;refine(z5 h _).mono ?_;rw[HK.out];rintro e w1 ⟨rfl,b1⟩;have k0:Z w1 w.heap.size 46 h.vJ:=hH;have k1:Z w1 (w.heap.size+1) 210 [.int .i64 c0,.int .i64 c1,.int .i64 c2,.int .i64 c3]:=gC;have hB:al w w1:=jr;clear b1;have e0:=k0.K 0 J;have e1:=k0.K 1 J;have e2:=k0.K 2 J;have e3:=k0.K 3 J;have e4:=k0.K 4 J;have e5:=k0.K 5 J;have e6:=k0.K 6 J;have e7:=k0.K 7 J;have e8:=k0.K 8 J;have e9:=k0.K 9 J;obtain⟨afS,afR⟩:=uK h.qr 32768 ax;obtain⟨agi,agh⟩:=uK h.aa 1024 ax;obtain⟨aho,ahl⟩:=uK h.tc 512 ax;obtain⟨ahp,ahm⟩:=uK h.rd 256 ax;obtain⟨ahq,ahn⟩:=uK h.ra 128 ax;obtain⟨l32,m32⟩:=uK h.ad 32 ax;obtain⟨l16,m16⟩:=uK h.cd 16 ax;go_wp2_with fail;go_quiet((go_at_call 206;exact yi.quiet (Ho _ _ _)));obtain⟨W,hW⟩:∃W,W=w1.drewN nq:=gp;rw[<-hW];have hBW:al w W:=iV;have k2:Z W (w.heap.size+1) 210 [.int .i64 c0,.int .i64 c1,.int .i64 c2,.int .i64 c3]:=jA;have k3:Z W w.heap.size 46 h.vJ:=jB;clear hW k0 k1 hB e0 e1 e2 e3 e4 e5 e6 e7 e8 e9 afS agi aho ahp ahq l32 l16 afR agh ahl ahm ahn m32 m16;clear w1;have e0:=k3.K 0 J;rw[show wN h.qr 32768+h.op*2048+wN h.aa 1024+wN h.tc 512+wN h.rd 256+wN h.ra 128+wN h.ad 32+wN h.cd 16+h.rc=h.num from J];go_wp2_with fail;refine(wi _ _ _).mono ?_;rintro e w2 ⟨rfl,b2⟩;rw[show hw 2=2 from J];have hB2:=tL hBW hBW.size b2;go_wp2_with fail;refine(wi _ _ _).mono ?_;rintro e w3 ⟨rfl,b3⟩;rw[show hw 2=2 from J];have hB3:=tL hB2 hB2.size b3;have k4:=(k2.G b2 k2.lt);have k5:=k4.G b3 k4.lt;have d0:=k5.K 0 J;have d1:=k5.K 1 J;have d2:=k5.K 2 J;have d3:=k5.K 3 J;have n0:=tR 2 h.id;have n1:=tR 2 h.num;generalize hp:tT 2 h.id=p at*;generalize hq:tT 2 h.num=q at*;have Hp:=Y hp;have Hq:=Y hq;have pl:p.length<=2:=I;have ql:q.length<=2:=I;clear hp hq n0 n1 k2 k3 k4 k5 e0 hBW hB2 b2 b3;go_wp2_with fail;refine wp_loop_rounds 5 ?_;rw[rounds_succ];go_wp2_with fail;refine(xk _ _ _ g0).mono ?_;rintro e w' ⟨rfl,rfl⟩;go_wp2_with fail;refine(wi _ _ _).mono ?_;rintro e v0 ⟨rfl,a0⟩;rw[show hw 2=2 from J];have hC0:=tL hB3 hB3.size a0;have z0:=tR 2 c0;generalize hz0:tT 2 c0=y0 at*;have Hz0:=Y hz0;have yl0:y0.length<=2:=I;clear hz0 z0;go_wp2_with fail;rw[rounds_succ];go_wp2_with fail;refine(xk _ _ _ g1).mono ?_;rintro e w' ⟨rfl,rfl⟩;go_wp2_with fail;refine(wi _ _ _).mono ?_;rintro e v1 ⟨rfl,a1⟩;rw[show hw 2=2 from J];have hC1:=tL hC0 hC0.size a1;have z1:=tR 2 c1;generalize hz1:tT 2 c1=y1 at*;have Hz1:=Y hz1;have yl1:y1.length<=2:=I;clear hz1 z1;go_wp2_with fail;rw[rounds_succ];go_wp2_with fail;refine(xk _ _ _ g2).mono ?_;rintro e w' ⟨rfl,rfl⟩;go_wp2_with fail;refine(wi _ _ _).mono ?_;rintro e v2 ⟨rfl,a2⟩;rw[show hw 2=2 from J];have hC2:=tL hC1 hC1.size a2;have z2:=tR 2 c2;generalize hz2:tT 2 c2=y2 at*;have Hz2:=Y hz2;have yl2:y2.length<=2:=I;clear hz2 z2;go_wp2_with fail;rw[rounds_succ];go_wp2_with fail;refine(xk _ _ _ g3).mono ?_;rintro e w' ⟨rfl,rfl⟩;go_wp2_with fail;refine(wi _ _ _).mono ?_;rintro e v3 ⟨rfl,a3⟩;rw[show hw 2=2 from J];have hC3:=tL hC2 hC2.size a3;have z3:=tR 2 c3;generalize hz3:tT 2 c3=y3 at*;have Hz3:=Y hz3;have yl3:y3.length<=2:=I;clear hz3 z3;exact qO
theorem OX(h:Hd)(c0 c1 c2 c3:Int)(w:World)(O:h.ok=true)(g0:¬(0<=c0/\c0<=65535)):
  Calls prog 166 #[h.agg,ye c0 c1 c2 c3] w (uf (.tuple #[.string (bs []),.int .i64 4]) w):=by
 have hr:(0<=h.id/\h.id<=65535)/\(0<=h.op/\h.op<=15)/\(0<=h.rc/\h.rc<=15):=ij;obtain⟨⟨i0,i1⟩,⟨o0,o1⟩,⟨r0,r1⟩⟩:=hr;have i10:∀w:World,(Instr.index 210 (.agg #[.int .i64 c0,.int .i64 c1,.int .i64 c2,.int .i64 c3]) (.int .i64 0)).run prog w= .ok (.int .i64 c0) w:=fun _=>by kernel_rfl
 have HK:=Y O;clear O;simp only[Hd.agg,ye];go_enter func166,ntmps166;go_wp2_with fail;refine(z5 h _).mono ?_;rw[HK.out];rintro e w1 ⟨rfl,b1⟩;have k0:Z w1 w.heap.size 46 h.vJ:=hH;have k1:Z w1 (w.heap.size+1) 210 [.int .i64 c0,.int .i64 c1,.int .i64 c2,.int .i64 c3]:=gC;have hB:al w w1:=jr;clear b1;have e0:=k0.K 0 J;have e1:=k0.K 1 J;have e2:=k0.K 2 J;have e3:=k0.K 3 J;have e4:=k0.K 4 J;have e5:=k0.K 5 J;have e6:=k0.K 6 J;have e7:=k0.K 7 J;have e8:=k0.K 8 J;have e9:=k0.K 9 J;obtain⟨afS,afR⟩:=uK h.qr 32768 ax;obtain⟨agi,agh⟩:=uK h.aa 1024 ax;obtain⟨aho,ahl⟩:=uK h.tc 512 ax;obtain⟨ahp,ahm⟩:=uK h.rd 256 ax;obtain⟨ahq,ahn⟩:=uK h.ra 128 ax;obtain⟨l32,m32⟩:=uK h.ad 32 ax;obtain⟨l16,m16⟩:=uK h.cd 16 ax;go_wp2_with fail;go_quiet((go_at_call 206;exact yi.quiet (Ho _ _ _)));obtain⟨W,hW⟩:∃W,W=w1.drewN nq:=gp;rw[<-hW];have hBW:al w W:=iV;have k2:Z W (w.heap.size+1) 210 [.int .i64 c0,.int .i64 c1,.int .i64 c2,.int .i64 c3]:=jA;have k3:Z W w.heap.size 46 h.vJ:=jB;clear hW k0 k1 hB e0 e1 e2 e3 e4 e5 e6 e7 e8 e9 afS agi aho ahp ahq l32 l16 afR agh ahl ahm ahn m32 m16;clear w1;have e0:=k3.K 0 J;rw[show wN h.qr 32768+h.op*2048+wN h.aa 1024+wN h.tc 512+wN h.rd 256+wN h.ra 128+wN h.ad 32+wN h.cd 16+h.rc=h.num from J];go_wp2_with fail;refine(wi _ _ _).mono ?_;rintro e w2 ⟨rfl,b2⟩;rw[show hw 2=2 from J];have hB2:=tL hBW hBW.size b2;go_wp2_with fail;refine(wi _ _ _).mono ?_;rintro e w3 ⟨rfl,b3⟩;rw[show hw 2=2 from J];have hB3:=tL hB2 hB2.size b3;have k4:=(k2.G b2 k2.lt);have k5:=k4.G b3 k4.lt;have d0:=k5.K 0 J;have d1:=k5.K 1 J;have d2:=k5.K 2 J;have d3:=k5.K 3 J;have n0:=tR 2 h.id;have n1:=tR 2 h.num;generalize hp:tT 2 h.id=p at*;generalize hq:tT 2 h.num=q at*;have pl:p.length<=2:=I;have ql:q.length<=2:=I;clear hp hq n0 n1 k2 k3 k4 k5 e0 hBW hB2 b2 b3;go_wp2_with fail;refine wp_loop_rounds 5 ?_;rw[rounds_succ];go_wp2_with fail;refine(Bv _ _ _ g0).mono ?_;rintro e w' ⟨rfl,rfl⟩;go_wp2_with fail;go_ret2;exact uf.mk J hB3
theorem OY(h:Hd)(c0 c1 c2 c3:Int)(w:World)(O:h.ok=true)(g0:0<=c0/\c0<=65535)(g1:¬(0<=c1/\c1<=65535)):
  Calls prog 166 #[h.agg,ye c0 c1 c2 c3] w (uf (.tuple #[.string (bs []),.int .i64 4]) w):=by
 have hr:(0<=h.id/\h.id<=65535)/\(0<=h.op/\h.op<=15)/\(0<=h.rc/\h.rc<=15):=ij;obtain⟨⟨i0,i1⟩,⟨o0,o1⟩,⟨r0,r1⟩⟩:=hr;have i10:∀w:World,(Instr.index 210 (.agg #[.int .i64 c0,.int .i64 c1,.int .i64 c2,.int .i64 c3]) (.int .i64 0)).run prog w= .ok (.int .i64 c0) w:=fun _=>by kernel_rfl
 have i11:∀w:World,(Instr.index 210 (.agg #[.int .i64 c0,.int .i64 c1,.int .i64 c2,.int .i64 c3]) (.int .i64 1)).run prog w= .ok (.int .i64 c1) w:=fun _=>by kernel_rfl
 have HK:=Y O;clear O;simp only[Hd.agg,ye];go_enter func166,ntmps166;go_wp2_with fail;refine(z5 h _).mono ?_;rw[HK.out];rintro e w1 ⟨rfl,b1⟩;have k0:Z w1 w.heap.size 46 h.vJ:=hH;have k1:Z w1 (w.heap.size+1) 210 [.int .i64 c0,.int .i64 c1,.int .i64 c2,.int .i64 c3]:=gC;have hB:al w w1:=jr;clear b1;have e0:=k0.K 0 J;have e1:=k0.K 1 J;have e2:=k0.K 2 J;have e3:=k0.K 3 J;have e4:=k0.K 4 J;have e5:=k0.K 5 J;have e6:=k0.K 6 J;have e7:=k0.K 7 J;have e8:=k0.K 8 J;have e9:=k0.K 9 J;obtain⟨afS,afR⟩:=uK h.qr 32768 ax;obtain⟨agi,agh⟩:=uK h.aa 1024 ax;obtain⟨aho,ahl⟩:=uK h.tc 512 ax;obtain⟨ahp,ahm⟩:=uK h.rd 256 ax;obtain⟨ahq,ahn⟩:=uK h.ra 128 ax;obtain⟨l32,m32⟩:=uK h.ad 32 ax;obtain⟨l16,m16⟩:=uK h.cd 16 ax;go_wp2_with fail;go_quiet((go_at_call 206;exact yi.quiet (Ho _ _ _)));obtain⟨W,hW⟩:∃W,W=w1.drewN nq:=gp;rw[<-hW];have hBW:al w W:=iV;have k2:Z W (w.heap.size+1) 210 [.int .i64 c0,.int .i64 c1,.int .i64 c2,.int .i64 c3]:=jA;have k3:Z W w.heap.size 46 h.vJ:=jB;clear hW k0 k1 hB e0 e1 e2 e3 e4 e5 e6 e7 e8 e9 afS agi aho ahp ahq l32 l16 afR agh ahl ahm ahn m32 m16;clear w1;have e0:=k3.K 0 J;rw[show wN h.qr 32768+h.op*2048+wN h.aa 1024+wN h.tc 512+wN h.rd 256+wN h.ra 128+wN h.ad 32+wN h.cd 16+h.rc=h.num from J];go_wp2_with fail;refine(wi _ _ _).mono ?_;rintro e w2 ⟨rfl,b2⟩;rw[show hw 2=2 from J];have hB2:=tL hBW hBW.size b2;go_wp2_with fail;refine(wi _ _ _).mono ?_;rintro e w3 ⟨rfl,b3⟩;rw[show hw 2=2 from J];have hB3:=tL hB2 hB2.size b3;have k4:=(k2.G b2 k2.lt);have k5:=k4.G b3 k4.lt;have d0:=k5.K 0 J;have d1:=k5.K 1 J;have d2:=k5.K 2 J;have d3:=k5.K 3 J;have n0:=tR 2 h.id;have n1:=tR 2 h.num;generalize hp:tT 2 h.id=p at*;generalize hq:tT 2 h.num=q at*;have pl:p.length<=2:=I;have ql:q.length<=2:=I;clear hp hq n0 n1 k2 k3 k4 k5 e0 hBW hB2 b2 b3;go_wp2_with fail;refine wp_loop_rounds 5 ?_;rw[rounds_succ];go_wp2_with fail;refine(xk _ _ _ g0).mono ?_;rintro e w' ⟨rfl,rfl⟩;go_wp2_with fail;refine(wi _ _ _).mono ?_;rintro e v0 ⟨rfl,a0⟩;rw[show hw 2=2 from J];have hC0:=tL hB3 hB3.size a0;have z0:=tR 2 c0;generalize hz0:tT 2 c0=y0 at*;have yl0:y0.length<=2:=I;clear hz0 z0;go_wp2_with fail;rw[rounds_succ];go_wp2_with fail;refine(Bv _ _ _ g1).mono ?_;rintro e w' ⟨rfl,rfl⟩;go_wp2_with fail;go_ret2;exact uf.mk J hC0
theorem OZ(h:Hd)(c0 c1 c2 c3:Int)(w:World)(O:h.ok=true)(g0:0<=c0/\c0<=65535)(g1:0<=c1/\c1<=65535)(g2:¬(0<=c2/\c2<=65535)):
  Calls prog 166 #[h.agg,ye c0 c1 c2 c3] w (uf (.tuple #[.string (bs []),.int .i64 4]) w):=by
 have hr:(0<=h.id/\h.id<=65535)/\(0<=h.op/\h.op<=15)/\(0<=h.rc/\h.rc<=15):=ij;obtain⟨⟨i0,i1⟩,⟨o0,o1⟩,⟨r0,r1⟩⟩:=hr;have i10:∀w:World,(Instr.index 210 (.agg #[.int .i64 c0,.int .i64 c1,.int .i64 c2,.int .i64 c3]) (.int .i64 0)).run prog w= .ok (.int .i64 c0) w:=fun _=>by kernel_rfl
 have i11:∀w:World,(Instr.index 210 (.agg #[.int .i64 c0,.int .i64 c1,.int .i64 c2,.int .i64 c3]) (.int .i64 1)).run prog w= .ok (.int .i64 c1) w:=fun _=>by kernel_rfl
 have i12:∀w:World,(Instr.index 210 (.agg #[.int .i64 c0,.int .i64 c1,.int .i64 c2,.int .i64 c3]) (.int .i64 2)).run prog w= .ok (.int .i64 c2) w:=fun _=>by kernel_rfl
 have HK:=Y O;clear O;simp only[Hd.agg,ye];go_enter func166,ntmps166;go_wp2_with fail;refine(z5 h _).mono ?_;rw[HK.out];rintro e w1 ⟨rfl,b1⟩;have k0:Z w1 w.heap.size 46 h.vJ:=hH;have k1:Z w1 (w.heap.size+1) 210 [.int .i64 c0,.int .i64 c1,.int .i64 c2,.int .i64 c3]:=gC;have hB:al w w1:=jr;clear b1;have e0:=k0.K 0 J;have e1:=k0.K 1 J;have e2:=k0.K 2 J;have e3:=k0.K 3 J;have e4:=k0.K 4 J;have e5:=k0.K 5 J;have e6:=k0.K 6 J;have e7:=k0.K 7 J;have e8:=k0.K 8 J;have e9:=k0.K 9 J;obtain⟨afS,afR⟩:=uK h.qr 32768 ax;obtain⟨agi,agh⟩:=uK h.aa 1024 ax;obtain⟨aho,ahl⟩:=uK h.tc 512 ax;obtain⟨ahp,ahm⟩:=uK h.rd 256 ax;obtain⟨ahq,ahn⟩:=uK h.ra 128 ax;obtain⟨l32,m32⟩:=uK h.ad 32 ax;obtain⟨l16,m16⟩:=uK h.cd 16 ax;go_wp2_with fail;go_quiet((go_at_call 206;exact yi.quiet (Ho _ _ _)));obtain⟨W,hW⟩:∃W,W=w1.drewN nq:=gp;rw[<-hW];have hBW:al w W:=iV;have k2:Z W (w.heap.size+1) 210 [.int .i64 c0,.int .i64 c1,.int .i64 c2,.int .i64 c3]:=jA;have k3:Z W w.heap.size 46 h.vJ:=jB;clear hW k0 k1 hB e0 e1 e2 e3 e4 e5 e6 e7 e8 e9 afS agi aho ahp ahq l32 l16 afR agh ahl ahm ahn m32 m16;clear w1;have e0:=k3.K 0 J;rw[show wN h.qr 32768+h.op*2048+wN h.aa 1024+wN h.tc 512+wN h.rd 256+wN h.ra 128+wN h.ad 32+wN h.cd 16+h.rc=h.num from J];go_wp2_with fail;refine(wi _ _ _).mono ?_;rintro e w2 ⟨rfl,b2⟩;rw[show hw 2=2 from J];have hB2:=tL hBW hBW.size b2;go_wp2_with fail;refine(wi _ _ _).mono ?_;rintro e w3 ⟨rfl,b3⟩;rw[show hw 2=2 from J];have hB3:=tL hB2 hB2.size b3;have k4:=(k2.G b2 k2.lt);have k5:=k4.G b3 k4.lt;have d0:=k5.K 0 J;have d1:=k5.K 1 J;have d2:=k5.K 2 J;have d3:=k5.K 3 J;have n0:=tR 2 h.id;have n1:=tR 2 h.num;generalize hp:tT 2 h.id=p at*;generalize hq:tT 2 h.num=q at*;have pl:p.length<=2:=I;have ql:q.length<=2:=I;clear hp hq n0 n1 k2 k3 k4 k5 e0 hBW hB2 b2 b3;go_wp2_with fail;refine wp_loop_rounds 5 ?_;rw[rounds_succ];go_wp2_with fail;refine(xk _ _ _ g0).mono ?_;rintro e w' ⟨rfl,rfl⟩;go_wp2_with fail;refine(wi _ _ _).mono ?_;rintro e v0 ⟨rfl,a0⟩;rw[show hw 2=2 from J];have hC0:=tL hB3 hB3.size a0;have z0:=tR 2 c0;generalize hz0:tT 2 c0=y0 at*;have yl0:y0.length<=2:=I;clear hz0 z0;go_wp2_with fail;rw[rounds_succ];go_wp2_with fail;refine(xk _ _ _ g1).mono ?_;rintro e w' ⟨rfl,rfl⟩;go_wp2_with fail;refine(wi _ _ _).mono ?_;rintro e v1 ⟨rfl,a1⟩;rw[show hw 2=2 from J];have hC1:=tL hC0 hC0.size a1;have z1:=tR 2 c1;generalize hz1:tT 2 c1=y1 at*;have yl1:y1.length<=2:=I;clear hz1 z1;go_wp2_with fail;rw[rounds_succ];go_wp2_with fail;refine(Bv _ _ _ g2).mono ?_;rintro e w' ⟨rfl,rfl⟩;go_wp2_with fail;go_ret2;exact uf.mk J hC1
theorem O8(h:Hd)(c0 c1 c2 c3:Int)(w:World)(O:h.ok=true)(g0:0<=c0/\c0<=65535)(g1:0<=c1/\c1<=65535)(g2:0<=c2/\c2<=65535)(g3:¬(0<=c3/\c3<=65535)):
  Calls prog 166 #[h.agg,ye c0 c1 c2 c3] w (uf (.tuple #[.string (bs []),.int .i64 4]) w):=by
 have hr:(0<=h.id/\h.id<=65535)/\(0<=h.op/\h.op<=15)/\(0<=h.rc/\h.rc<=15):=ij;obtain⟨⟨i0,i1⟩,⟨o0,o1⟩,⟨r0,r1⟩⟩:=hr;have i10:∀w:World,(Instr.index 210 (.agg #[.int .i64 c0,.int .i64 c1,.int .i64 c2,.int .i64 c3]) (.int .i64 0)).run prog w= .ok (.int .i64 c0) w:=fun _=>by kernel_rfl
 have i11:∀w:World,(Instr.index 210 (.agg #[.int .i64 c0,.int .i64 c1,.int .i64 c2,.int .i64 c3]) (.int .i64 1)).run prog w= .ok (.int .i64 c1) w:=fun _=>by kernel_rfl
 have i12:∀w:World,(Instr.index 210 (.agg #[.int .i64 c0,.int .i64 c1,.int .i64 c2,.int .i64 c3]) (.int .i64 2)).run prog w= .ok (.int .i64 c2) w:=fun _=>by kernel_rfl
 have i13:∀w:World,(Instr.index 210 (.agg #[.int .i64 c0,.int .i64 c1,.int .i64 c2,.int .i64 c3]) (.int .i64 3)).run prog w= .ok (.int .i64 c3) w:=fun _=>by kernel_rfl
 have HK:=Y O;clear O;simp only[Hd.agg,ye];go_enter func166,ntmps166;go_wp2_with fail;refine(z5 h _).mono ?_;rw[HK.out];rintro e w1 ⟨rfl,b1⟩;have k0:Z w1 w.heap.size 46 h.vJ:=hH;have k1:Z w1 (w.heap.size+1) 210 [.int .i64 c0,.int .i64 c1,.int .i64 c2,.int .i64 c3]:=gC;have hB:al w w1:=jr;clear b1;have e0:=k0.K 0 J;have e1:=k0.K 1 J;have e2:=k0.K 2 J;have e3:=k0.K 3 J;have e4:=k0.K 4 J;have e5:=k0.K 5 J;have e6:=k0.K 6 J;have e7:=k0.K 7 J;have e8:=k0.K 8 J;have e9:=k0.K 9 J;obtain⟨afS,afR⟩:=uK h.qr 32768 ax;obtain⟨agi,agh⟩:=uK h.aa 1024 ax;obtain⟨aho,ahl⟩:=uK h.tc 512 ax;obtain⟨ahp,ahm⟩:=uK h.rd 256 ax;obtain⟨ahq,ahn⟩:=uK h.ra 128 ax;obtain⟨l32,m32⟩:=uK h.ad 32 ax;obtain⟨l16,m16⟩:=uK h.cd 16 ax;go_wp2_with fail;go_quiet((go_at_call 206;exact yi.quiet (Ho _ _ _)));obtain⟨W,hW⟩:∃W,W=w1.drewN nq:=gp;rw[<-hW];have hBW:al w W:=iV;have k2:Z W (w.heap.size+1) 210 [.int .i64 c0,.int .i64 c1,.int .i64 c2,.int .i64 c3]:=jA;have k3:Z W w.heap.size 46 h.vJ:=jB;clear hW k0 k1 hB e0 e1 e2 e3 e4 e5 e6 e7 e8 e9 afS agi aho ahp ahq l32 l16 afR agh ahl ahm ahn m32 m16;clear w1;have e0:=k3.K 0 J;rw[show wN h.qr 32768+h.op*2048+wN h.aa 1024+wN h.tc 512+wN h.rd 256+wN h.ra 128+wN h.ad 32+wN h.cd 16+h.rc=h.num from J];go_wp2_with fail;refine(wi _ _ _).mono ?_;rintro e w2 ⟨rfl,b2⟩;rw[show hw 2=2 from J];have hB2:=tL hBW hBW.size b2;go_wp2_with fail;refine(wi _ _ _).mono ?_;rintro e w3 ⟨rfl,b3⟩;rw[show hw 2=2 from J];have hB3:=tL hB2 hB2.size b3;have k4:=(k2.G b2 k2.lt);have k5:=k4.G b3 k4.lt;have d0:=k5.K 0 J;have d1:=k5.K 1 J;have d2:=k5.K 2 J;have d3:=k5.K 3 J;have n0:=tR 2 h.id;have n1:=tR 2 h.num;generalize hp:tT 2 h.id=p at*;generalize hq:tT 2 h.num=q at*;have pl:p.length<=2:=I;have ql:q.length<=2:=I;clear hp hq n0 n1 k2 k3 k4 k5 e0 hBW hB2 b2 b3;go_wp2_with fail;refine wp_loop_rounds 5 ?_;rw[rounds_succ];go_wp2_with fail;refine(xk _ _ _ g0).mono ?_;rintro e w' ⟨rfl,rfl⟩;go_wp2_with fail;refine(wi _ _ _).mono ?_;rintro e v0 ⟨rfl,a0⟩;rw[show hw 2=2 from J];have hC0:=tL hB3 hB3.size a0;have z0:=tR 2 c0;generalize hz0:tT 2 c0=y0 at*;have yl0:y0.length<=2:=I;clear hz0 z0;go_wp2_with fail;rw[rounds_succ];go_wp2_with fail;refine(xk _ _ _ g1).mono ?_;rintro e w' ⟨rfl,rfl⟩;go_wp2_with fail;refine(wi _ _ _).mono ?_;rintro e v1 ⟨rfl,a1⟩;rw[show hw 2=2 from J];have hC1:=tL hC0 hC0.size a1;have z1:=tR 2 c1;generalize hz1:tT 2 c1=y1 at*;have yl1:y1.length<=2:=I;clear hz1 z1;go_wp2_with fail;rw[rounds_succ];go_wp2_with fail;refine(xk _ _ _ g2).mono ?_;rintro e w' ⟨rfl,rfl⟩;go_wp2_with fail;refine(wi _ _ _).mono ?_;rintro e v2 ⟨rfl,a2⟩;rw[show hw 2=2 from J];have hC2:=tL hC1 hC1.size a2;have z2:=tR 2 c2;generalize hz2:tT 2 c2=y2 at*;have yl2:y2.length<=2:=I;clear hz2 z2;go_wp2_with fail;rw[rounds_succ];go_wp2_with fail;refine(Bv _ _ _ g3).mono ?_;rintro e w' ⟨rfl,rfl⟩;go_wp2_with fail;go_ret2;exact uf.mk J hC2
def Eu(h:Hd)(c0 c1 c2 c3:Int):List UInt8×Int:=
 if h.ok=true/\(0<=c0/\c0<=65535)/\(0<=c1/\c1<=65535)/\(0<=c2/\c2<=65535)/\(0<=c3/\c3<=65535)then(wW h c0 c1 c2 c3,0)else([],4)
theorem Qw(h:Hd)(c0 c1 c2 c3:Int)(w:World):
  Calls prog 166 #[h.agg,ye c0 c1 c2 c3] w (uf (.tuple #[.string (bs (Eu h c0 c1 c2 c3).1),.int .i64 (Eu h c0 c1 c2 c3).2]) w):=by
 unfold Eu;cases O:h.ok with
 |false=>rw[if_neg ap];exact Qv h c0 c1 c2 c3 w O
 |true=>
  by_cases g0:0<=c0/\c0<=65535
  ·
   by_cases g1:0<=c1/\c1<=65535
   ·
    by_cases g2:0<=c2/\c2<=65535
    ·
     by_cases g3:0<=c3/\c3<=65535
     ·rw[if_pos ⟨J,g0,g1,g2,g3⟩];exact TA h c0 c1 c2 c3 w O g0 g1 g2 g3
     ·rw[if_neg (fun hh=>g3 hh.2.2.2.2)];exact O8 h c0 c1 c2 c3 w O g0 g1 g2 g3
    ·rw[if_neg (fun hh=>g2 hh.2.2.2.1)];exact OZ h c0 c1 c2 c3 w O g0 g1 g2
   ·rw[if_neg (fun hh=>g1 hh.2.2.1)];exact OY h c0 c1 c2 c3 w O g0 g1
  ·rw[if_neg (fun hh=>g0 hh.2.1)];exact OX h c0 c1 c2 c3 w O g0
theorem JI(h:Hd)(c0 c1 c2 c3:Int)(w:World)(g0:¬(0<=c0/\c0<=65535)):
  Calls prog 111 #[h.agg,ye c0 c1 c2 c3] w (uf (.tuple #[.string (bs []),.int .i64 4]) w):=by
 simp only[Hd.agg,ye];by_cases gz:c0<0;all_goals
  go_enter func111,ntmps111;go_wp2_with fail;refine wp_loop_rounds 5 ?_;rw[rounds_succ];go_wp2_with fail;go_ret2;exact uf.mk J aw
theorem JJ(h:Hd)(c0 c1 c2 c3:Int)(w:World)(g0:0<=c0/\c0<=65535)(g1:¬(0<=c1/\c1<=65535)):
  Calls prog 111 #[h.agg,ye c0 c1 c2 c3] w (uf (.tuple #[.string (bs []),.int .i64 4]) w):=by
 obtain⟨g0a,g0b⟩:=g0;simp only[Hd.agg,ye];by_cases gz:c1<0;all_goals
  go_enter func111,ntmps111;go_wp2_with fail;refine wp_loop_rounds 5 ?_;exact qK
theorem JK(h:Hd)(c0 c1 c2 c3:Int)(w:World)(g0:0<=c0/\c0<=65535)(g1:0<=c1/\c1<=65535)(g2:¬(0<=c2/\c2<=65535)):
  Calls prog 111 #[h.agg,ye c0 c1 c2 c3] w (uf (.tuple #[.string (bs []),.int .i64 4]) w):=by
 obtain⟨g0a,g0b⟩:=g0;obtain⟨g1a,g1b⟩:=g1;simp only[Hd.agg,ye];by_cases gz:c2<0;all_goals
  go_enter func111,ntmps111;go_wp2_with fail;refine wp_loop_rounds 5 ?_;rw[rounds_succ];go_wp2_with fail;exact qK
theorem JL(h:Hd)(c0 c1 c2 c3:Int)(w:World)(g0:0<=c0/\c0<=65535)(g1:0<=c1/\c1<=65535)(g2:0<=c2/\c2<=65535)(g3:¬(0<=c3/\c3<=65535)):
  Calls prog 111 #[h.agg,ye c0 c1 c2 c3] w (uf (.tuple #[.string (bs []),.int .i64 4]) w):=by
 obtain⟨g0a,g0b⟩:=g0;obtain⟨g1a,g1b⟩:=g1;obtain⟨g2a,g2b⟩:=g2;simp only[Hd.agg,ye];by_cases gz:c3<0;all_goals
  go_enter func111,ntmps111;go_wp2_with fail;refine wp_loop_rounds 5 ?_;rw[rounds_succ];go_wp2_with fail;rw[rounds_succ];go_wp2_with fail;exact qK
theorem JM(h:Hd)(c0 c1 c2 c3:Int)(w:World)(O:h.ok=false)(g0:0<=c0/\c0<=65535)(g1:0<=c1/\c1<=65535)(g2:0<=c2/\c2<=65535)(g3:0<=c3/\c3<=65535):
  Calls prog 111 #[h.agg,ye c0 c1 c2 c3] w (uf (.tuple #[.string (bs []),.int .i64 4]) w):=by
 obtain⟨g0a,g0b⟩:=g0;obtain⟨g1a,g1b⟩:=g1;obtain⟨g2a,g2b⟩:=g2;obtain⟨g3a,g3b⟩:=g3;have HK:=Y O;clear O;simp only[Hd.agg,ye];go_enter func111,ntmps111;go_wp2_with fail;refine wp_loop_rounds 5 ?_;rw[rounds_succ];go_wp2_with fail;rw[rounds_succ];go_wp2_with fail;rw[rounds_succ];go_wp2_with fail;rw[rounds_succ];go_wp2_with fail;rw[rounds_succ];go_wp2_with fail;refine(DI h _).mono ?_;rw[HK.out];exact sk
theorem Mv(h:Hd)(c0 c1 c2 c3:Int)(w:World)(O:h.ok=true)(g0:0<=c0/\c0<=65535)(g1:0<=c1/\c1<=65535)(g2:0<=c2/\c2<=65535)(g3:0<=c3/\c3<=65535):
  Calls prog 111 #[h.agg,ye c0 c1 c2 c3] w (uf (.tuple #[.string (bs (wW h c0 c1 c2 c3)),.int .i64 0]) w):=by
 have hr:(0<=h.id/\h.id<=65535)/\(0<=h.op/\h.op<=15)/\(0<=h.rc/\h.rc<=15):=ij;obtain⟨⟨i0,i1⟩,⟨o0,o1⟩,⟨r0,r1⟩⟩:=hr;obtain⟨g0a,g0b⟩:=g0;obtain⟨g1a,g1b⟩:=g1;obtain⟨g2a,g2b⟩:=g2;obtain⟨g3a,g3b⟩:=g3;have HK:=Y O;clear O;simp only[Hd.agg,ye];go_enter func111,ntmps111;go_wp2_with fail;refine wp_loop_rounds 5 ?_;rw[rounds_succ];go_wp2_with fail;rw[rounds_succ];go_wp2_with fail;rw[rounds_succ];go_wp2_with fail;rw[rounds_succ];go_wp2_with fail;rw[rounds_succ];go_wp2_with fail;refine(DI h _).mono ?_;rw[HK.out];rintro e w1 ⟨rfl,b1⟩;have k0:Z w1 w.heap.size 46 h.vJ:=hH;have k1:Z w1 (w.heap.size+1) 210 [.int .i64 c0,.int .i64 c1,.int .i64 c2,.int .i64 c3]:=gC;have hB:al w w1:=jr;clear b1;have e0:=k0.K 0 J;have e1:=k0.K 1 J;have e2:=k0.K 2 J;have e3:=k0.K 3 J;have e4:=k0.K 4 J;have e5:=k0.K 5 J;have e6:=k0.K 6 J;have e7:=k0.K 7 J;have e8:=k0.K 8 J;have e9:=k0.K 9 J;obtain⟨afS,afR⟩:=uK h.qr 32768 ax;obtain⟨agi,agh⟩:=uK h.aa 1024 ax;obtain⟨aho,ahl⟩:=uK h.tc 512 ax;obtain⟨ahp,ahm⟩:=uK h.rd 256 ax;obtain⟨ahq,ahn⟩:=uK h.ra 128 ax;obtain⟨l32,m32⟩:=uK h.ad 32 ax;obtain⟨l16,m16⟩:=uK h.cd 16 ax;go_wp2_with fail;go_quiet((go_at_call 162;exact yi.quiet (YP _ _ _)));obtain⟨W,hW⟩:∃W,W=w1.drewN nq:=gp;rw[<-hW];have hBW:al w W:=iV;have k2:Z W (w.heap.size+1) 210 [.int .i64 c0,.int .i64 c1,.int .i64 c2,.int .i64 c3]:=jA;have k3:Z W w.heap.size 46 h.vJ:=jB;clear hW k0 k1 hB e0 e1 e2 e3 e4 e5 e6 e7 e8 e9 afS agi aho ahp ahq l32 l16 afR agh ahl ahm ahn m32 m16;clear w1;have e0:=k3.K 0 J;rw[show wN h.qr 32768+h.op*2048+wN h.aa 1024+wN h.tc 512+wN h.rd 256+wN h.ra 128+wN h.ad 32+wN h.cd 16+h.rc=h.num from J];go_wp2_with fail;refine(wC _ _ _).mono ?_;rintro e w2 ⟨rfl,b2⟩;rw[show hw 2=2 from J];have hB2:=tL hBW hBW.size b2;go_wp2_with fail;refine(wC _ _ _).mono ?_;rintro e w3 ⟨rfl,b3⟩;rw[show hw 2=2 from J];have hB3:=tL hB2 hB2.size b3;have k4:=(k2.G b2 k2.lt);have k5:=k4.G b3 k4.lt;have n0:=tR 2 h.id;have n1:=tR 2 h.num;generalize hp:tT 2 h.id=p at*;generalize hq:tT 2 h.num=q at*;have Hp:=Y hp;have Hq:=Y hq;have pl:p.length<=2:=I;have ql:q.length<=2:=I;clear hp hq n0 n1 k2 k3 k4 e0 hBW hB2 b2 b3;go_wp2_with fail;refine wp_loop_rounds 5 ?_;rw[rounds_succ];have d0:=k5.K 0 J;go_wp2_with fail;refine(wC _ _ _).mono ?_;rintro e v0 ⟨rfl,a0⟩;rw[show hw 2=2 from J];have hC0:=tL hB3 hB3.size a0;have x0:=k5.G a0 k5.lt;have z0:=tR 2 c0;generalize hz0:tT 2 c0=y0 at*;have Hz0:=Y hz0;have yl0:y0.length<=2:=I;clear hz0 z0 d0 a0;go_wp2_with fail;rw[rounds_succ];have d1:=x0.K 1 J;go_wp2_with fail;refine(wC _ _ _).mono ?_;rintro e v1 ⟨rfl,a1⟩;rw[show hw 2=2 from J];have hC1:=tL hC0 hC0.size a1;have x1:=x0.G a1 x0.lt;have z1:=tR 2 c1;generalize hz1:tT 2 c1=y1 at*;have Hz1:=Y hz1;have yl1:y1.length<=2:=I;clear hz1 z1 d1 a1;go_wp2_with fail;rw[rounds_succ];have d2:=x1.K 2 J;go_wp2_with fail;refine(wC _ _ _).mono ?_;rintro e v2 ⟨rfl,a2⟩;rw[show hw 2=2 from J];have hC2:=tL hC1 hC1.size a2;have x2:=x1.G a2 x1.lt;have z2:=tR 2 c2;generalize hz2:tT 2 c2=y2 at*;have Hz2:=Y hz2;have yl2:y2.length<=2:=I;clear hz2 z2 d2 a2;go_wp2_with fail;rw[rounds_succ];have d3:=x2.K 3 J;go_wp2_with fail;refine(wC _ _ _).mono ?_;rintro e v3 ⟨rfl,a3⟩;rw[show hw 2=2 from J];have hC3:=tL hC2 hC2.size a3;have z3:=tR 2 c3;generalize hz3:tT 2 c3=y3 at*;have Hz3:=Y hz3;have yl3:y3.length<=2:=I;clear hz3 z3 d3 a3;exact qO
theorem KV(h:Hd)(c0 c1 c2 c3:Int)(w:World):
  Calls prog 111 #[h.agg,ye c0 c1 c2 c3] w (uf (.tuple #[.string (bs (Eu h c0 c1 c2 c3).1),.int .i64 (Eu h c0 c1 c2 c3).2]) w):=by
 unfold Eu;by_cases g0:0<=c0/\c0<=65535
 ·
  by_cases g1:0<=c1/\c1<=65535
  ·
   by_cases g2:0<=c2/\c2<=65535
   ·
    by_cases g3:0<=c3/\c3<=65535
    ·
     cases O:h.ok with
     |false=>rw[if_neg ap];exact JM h c0 c1 c2 c3 w O g0 g1 g2 g3
     |true=>rw[if_pos ⟨J,g0,g1,g2,g3⟩];exact Mv h c0 c1 c2 c3 w O g0 g1 g2 g3
    ·rw[if_neg (fun hh=>g3 hh.2.2.2.2)];exact JL h c0 c1 c2 c3 w g0 g1 g2 g3
   ·rw[if_neg (fun hh=>g2 hh.2.2.2.1)];exact JK h c0 c1 c2 c3 w g0 g1 g2
  ·rw[if_neg (fun hh=>g1 hh.2.2.1)];exact JJ h c0 c1 c2 c3 w g0 g1
 ·rw[if_neg (fun hh=>g0 hh.2.1)];exact JI h c0 c1 c2 c3 w g0
end Go.Proofs.YthnbcmlnpdabhaaGreat
