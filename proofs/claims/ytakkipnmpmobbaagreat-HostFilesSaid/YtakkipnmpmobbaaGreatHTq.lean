/-
  Layer 11 (head):a head and its counts,read.
-/
import Derived.Test.YtakkipnmpmobbaaGreatGAq
namespace Go.Proofs.YtakkipnmpmobbaaGreat
open _root_.Go.Proofs.Tryz
set_option maxHeartbeats 8000000
open Go.RowKit
set_option maxRecDepth 100000
structure Hd where
 id:Int
 qr:Bool
 op:Int
 aa:Bool
 tc:Bool
 rd:Bool
 ra:Bool
 ad:Bool
 cd:Bool
 rc:Int
deriving DecidableEq
def Hd.uY(h:Hd):List Value:=[.int .i64 h.id,.bool h.qr,.int .i64 h.op,.bool h.aa,.bool h.tc,.bool h.rd,.bool h.ra,.bool h.ad,.bool h.cd,.int .i64 h.rc]
def Hd.agg(h:Hd):Value:=.agg #[.int .i64 h.id,.bool h.qr,.int .i64 h.op,.bool h.aa,.bool h.tc,.bool h.rd,.bool h.ra,.bool h.ad,.bool h.cd,.int .i64 h.rc]
def Hd.zero:Hd:=⟨0,false,0,false,false,false,false,false,false,0⟩
def zO(a b c d:Int):Value:=.agg #[.int .i64 a,.int .i64 b,.int .i64 c,.int .i64 d]
theorem Kw(l:List UInt8)(w:World)(E:l.length<12):Calls prog 174 #[.string (bs l)] w (rW (.tuple #[Hd.zero.agg,zO 0 0 0 0,.int .i64 1]) w):=by
 have hl':(l.length:Int)<12:=Y;go_enter func174,ntmps174;go_wp2_with fail;go_region;go_wp2_with fail;refine bodyPost_ret (v:=.tuple #[Hd.zero.agg,zO 0 0 0 0,.int .i64 1]) (by simp[results,Tryz.results174,go_sem,Hd.agg,Hd.zero,zO]) I (rW.mk I bi)
theorem Zn(g:Nat)(rest:List UInt8)(w:World)(h:ye w g rest false)(E:rest.length<=maxLen)(F:2<=rest.length):
  Calls prog 172 #[.pointer (some ⟨g,0,none⟩),.int .i64 2] w (Iv (.int .i64 (sY (rest.take 2))) g (rest.drop 2) false w):=by
 exact nV
def xp(l:List UInt8)(k:Nat):Nat:=sY ((l.drop k).take 2)
theorem yK(l:List UInt8)(k:Nat):xp l k<65536:=yU _ 2 aB
def z7(n:Nat)(k:Nat):Bool:=n/k%2==1
def Fz(id n:Nat):Hd:=⟨id,z7 n 32768,(n:Int)/2048%16,z7 n 1024,z7 n 512,z7 n 256,z7 n 128,z7 n 32,z7 n 16,(n:Int)%16⟩
theorem Vk(a b:Nat)(ha:a<65536)(Z:b<65536):bits .and .i64 (a:Int) (b:Int)=((a&&&b:Nat):Int):=by
 have hx:a&&&b<2^16:=Nat.and_lt_two_pow _ Y;show IntKind.i64.wrap ((BitVec.ofInt 64 (a:Int)&&&BitVec.ofInt 64 (b:Int)).toNat:Int)=_;rw[BitVec.toNat_and,BitVec.ofInt_natCast,BitVec.ofInt_natCast,BitVec.toNat_ofNat,BitVec.toNat_ofNat,Nat.mod_eq_of_lt Y,Nat.mod_eq_of_lt Y,IntKind.wrap_i64];omega
theorem Bf(n k:Nat)(hn:n<65536)(O:2^k<65536):(bits .and .i64 (n:Int) ((2^k:Nat):Int) !=0)=z7 n (2^k):=by
 rw[Vk n _ hn O];have U:(n&&&2^k=0)↔n.testBit k=false:=by
  constructor
  ·intro h;have:=congrArg (fun x=>x.testBit k) h;simpa[Nat.testBit_and,Nat.testBit_two_pow_self]using this
  ·
   intro h;apply Nat.eq_of_testBit_eq;intro i;rw[Nat.testBit_and,Nat.testBit_two_pow];by_cases hi:k=i
   ·subst hi;simp[h]
   ·simp[hi]
 have F:n.testBit k=z7 n (2^k):=by rw[Nat.testBit_eq_decide_div_mod_eq];unfold z7;rw[Bool.eq_iff_iff];simp
 rw[<-F];cases h:n.testBit k
 ·have:=U.2 h;simp[this]
 ·
  have:n&&&2^k≠0:=fun e=>by rw[U.1 e]at h;cases h
  simp;omega
theorem Zo(n:Nat)(hn:n<65536):bits .and .i64 (n:Int) 15=((n%16:Nat):Int):=by
 have:=Vk n 15 hn Y;rw[show((15:Nat):Int)=15 from I]at this;rw[this,show(15:Nat)=2^4-1 from I,Nat.and_two_pow_sub_one_eq_mod]
def IY(l:List UInt8)(k:Nat):List Value:=[.int .i64 (if 0<k then xp l 4 else 0:Nat),.int .i64 (if 1<k then xp l 6 else 0:Nat),.int .i64 (if 2<k then xp l 8 else 0:Nat),.int .i64 (if 3<k then xp l 10 else 0:Nat)]
theorem Zp(l:List UInt8)(k:Nat)(O:k<4):(IY l k).set k (.int .i64 (xp l (4+2*k):Nat))=IY l (k+1):=by
 have:k=0\/k=1\/k=2\/k=3:=Y;rcases this with rfl|rfl|rfl|rfl<;>rfl
theorem Zr(l:List UInt8)(k:Nat)(O:k<4):∃u:Int,(IY l k)[k]?=some (.int .i64 u):=by
 have:k=0\/k=1\/k=2\/k=3:=Y;rcases this with rfl|rfl|rfl|rfl<;>exact⟨_,I⟩
theorem TA(l:List UInt8)(k:Nat)(O:k+2<=12):((l.take 12).drop k).take 2=(l.drop k).take 2:=by
 rw[List.drop_take,List.take_take];congr 1;omega
def Zs(w:World)(l:List UInt8)(k:Nat)(wr:World):Prop:=
 N wr w.heap.size 166 Hd.zero.uY/\N wr (w.heap.size+1) 210 (IY l 0)/\N wr (w.heap.size+1+1) 210 (IY l k)/\
  ye wr (w.heap.size+1+1+1) ((l.take 12).drop (4+2*k)) false/\ao w wr
theorem NL(l:List UInt8)(w:World)(E:12<=l.length)(hm:l.length<=maxLen):
  Calls prog 174 #[.string (bs l)] w (rW (.tuple #[(Fz (xp l 0) (xp l 2)).agg,zO (xp l 4) (xp l 6) (xp l 8) (xp l 10),.int .i64 0]) w):=by
 have hl':(12:Int)<=l.length:=Y;have hl2:¬(l.length:Int)<12:=Y;have h12:(l.take 12).length=12:=aB;have aCv:(l.take 12).length<=maxLen:=Y;have H12:=J h12;clear h12;go_enter func174,ntmps174;go_wp2_with fail;refine(Ba (l.take 12) _).mono ?_;rintro e B ⟨rfl,hE,Z⟩;have k0:N B w.heap.size 166 Hd.zero.uY:=(((N.new w _ Hd.zero.uY).alloc _).alloc _).G Z aB;have k1:N B (w.heap.size+1) 210 (IY l 0):=((N.uE _ _ (IY l 0) _ ar).alloc _).G Z ar;have k2:N B (w.heap.size+1+1) 210 (IY l 0):=(N.uE _ _ (IY l 0) _ ar).G Z ar;have hB:ao w B:=((((Below.refl _ _).alloc (Nat.le_refl _) _).alloc ar _).alloc aB _).trans (Z.mono aB);clear Z;simp only[World.size_alloc]at hE⊢;go_wp2_with fail;refine(Zn _ _ _ hE aCv (by rw[H12.out];omega)).mono ?_;rintro e w2 ⟨rfl,hE2,hg2⟩;have hB2:=rE hB hg2 hB.size Y;have m0:=k0.grown hg2 aB;have m1:=k1.grown hg2 ar;have m2:=k2.grown hg2 ar;clear k0 k1 k2 hB hE hg2;rw[show sY (List.take 2 (List.take 12 l))=xp l 0 from by rw[xp,<-TA l 0 Y];rfl];go_wp2_with fail;refine(Zn _ _ _ hE2 bm bn).mono ?_;rintro e w3 ⟨rfl,hE3,hg3⟩;rw[TA l 2 Y,show sY (List.take 2 (List.drop 2 l))=xp l 2 from I];have hinv:Zs w l 0 w3:=⟨m0.grown hg3 aB,m1.grown hg3 ar,m2.grown hg3 ar,by rw[List.drop_drop]at hE3;exact hE3,rE hB2 hg3 hB2.size Y⟩;clear m0 m1 m2 hB2 hE2 hg3 hE3;have aLo:=yK l 0;have ahg:=yK l 2;generalize aBo:xp l 0=n0 at*;generalize aBn:xp l 2=n2 at*;clear aBo aBn w2 B;go_wp2_with fail;go_loopw[23] (fun i wr=>∃k:Nat,k<=4/\i= .int .i64 k/\Zs w l k wr) (fun i _=>4-(intOf i).toNat)
 case atStart=>exact⟨0,Y,I,hinv⟩
 case round=>
  obtain⟨k,O,rfl,q0,q1,q2,q3,q4⟩:=hrel;clear hinv;by_cases aA:k<4
  ·
   have h1:(k:Int)<4:=Y;go_wp2_with fail;refine(Zn _ _ _ q3 bm bn).mono ?_;rintro e w4 ⟨rfl,hE4,hg4⟩;rw[TA l (4+2*k) Y,show sY (List.take 2 (List.drop (4+2*k) l))=xp l (4+2*k)from I];have r0:=q0.grown hg4 aB;have r1:=q1.grown hg4 ar;have r2:=q2.grown hg4 ar;have r4:=rE q4 hg4 q4.size Y;obtain⟨u,hu⟩:=Zr l k aA;have hc:=r2.rD k hu;have hf:=r2.frozen k;clear q0 q1 q2 q3 q4 hg4;go_wp2_with fail;go_roundw
   case rel=>refine⟨k+1,Y,fQ,r0.wZ aB _,r1.wZ ar _,by rw[<-Zp l k aA];exact r2.set k _,?_,r4.setCell aB _⟩;have:=hE4.wZ (p:=⟨w.heap.size+1+1,k,none⟩) ar (.int .i64 (xp l (4+2*k):Nat));rw[List.drop_drop]at this;exact this
   case measure=>simp[intOf];omega
  ·
   obtain rfl:k=4:=Y;have h1:¬((4:Nat):Int)<4:=Y;have g15:(bits .and .i64 (n2:Int) 32768 !=0)=z7 n2 32768:=Bf n2 15 ahg K;have g10:(bits .and .i64 (n2:Int) 1024 !=0)=z7 n2 1024:=Bf n2 10 ahg K;have g9:(bits .and .i64 (n2:Int) 512 !=0)=z7 n2 512:=Bf n2 9 ahg K;have g8:(bits .and .i64 (n2:Int) 256 !=0)=z7 n2 256:=Bf n2 8 ahg K;have g7:(bits .and .i64 (n2:Int) 128 !=0)=z7 n2 128:=Bf n2 7 ahg K;have g5:(bits .and .i64 (n2:Int) 32 !=0)=z7 n2 32:=Bf n2 5 ahg K;have g4:(bits .and .i64 (n2:Int) 16 !=0)=z7 n2 16:=Bf n2 4 ahg K;have gop:bits .and .i64 ((n2:Int)/2048) 15=((n2/2048%16:Nat):Int):=by have:=Zo (n2/2048) Y;rw[<-this];congr 1
   have grc:bits .and .i64 (n2:Int) 15=((n2%16:Nat):Int):=Zo n2 ahg;go_wp2_with fail;obtain⟨W,hW⟩:∃W,W=wr.alloc (.cells (Fz n0 n2).uY.toArray 166):=gh;show Code.wp _ _ _ _ (wr.alloc (.cells (Fz n0 n2).uY.toArray 166));rw[<-hW];have p0:N W w.heap.size 166 Hd.zero.uY:=hW▸q0.alloc _;have p1:N W (w.heap.size+1) 210 (IY l 0):=hW▸q1.alloc _;have p2:N W (w.heap.size+1+1) 210 (IY l 4):=hW▸q2.alloc _;have p3:N W wr.heap.size 166 (Fz n0 n2).uY:=hW▸N.new _ _ _;have hBW:ao w W:=hW▸q4.alloc q4.size _;have aBa:w.heap.size+1+1<wr.heap.size:=q2.lt;clear hW q0 q1 q2 q3 q4 g15 g10 g9 g8 g7 g5 g4 gop grc;have c00:=p0.rD 0 I;have f00:=p0.frozen 0;have c30:=p3.rD 0 I;have c01:=p0.rD 1 I;have f01:=p0.frozen 1;have c31:=p3.rD 1 I;have c02:=p0.rD 2 I;have f02:=p0.frozen 2;have c32:=p3.rD 2 I;have c03:=p0.rD 3 I;have f03:=p0.frozen 3;have c33:=p3.rD 3 I;have c04:=p0.rD 4 I;have f04:=p0.frozen 4;have c34:=p3.rD 4 I;have c05:=p0.rD 5 I;have f05:=p0.frozen 5;have c35:=p3.rD 5 I;have c06:=p0.rD 6 I;have f06:=p0.frozen 6;have c36:=p3.rD 6 I;have c07:=p0.rD 7 I;have f07:=p0.frozen 7;have c37:=p3.rD 7 I;have c08:=p0.rD 8 I;have f08:=p0.frozen 8;have c38:=p3.rD 8 I;have c09:=p0.rD 9 I;have f09:=p0.frozen 9;have c39:=p3.rD 9 I;have c10:=p1.rD 0 I;have f10:=p1.frozen 0;have c20:=p2.rD 0 I;have c11:=p1.rD 1 I;have f11:=p1.frozen 1;have c21:=p2.rD 1 I;have c12:=p1.rD 2 I;have f12:=p1.frozen 2;have c22:=p2.rD 2 I;have c13:=p1.rD 3 I;have f13:=p1.frozen 3;have c23:=p2.rD 3 I;simp only[Nat.zero_lt_succ,if_true,show((1:Nat)<4)=True by decide,show((2:Nat)<4)=True by decide,show((3:Nat)<4)=True by decide]at c20 c21 c22 c23;go_region;go_wp2_with fail;refine bodyPost_ret (v:=.tuple #[(Fz n0 n2).agg,zO (xp l 4) (xp l 6) (xp l 8) (xp l 10),.int .i64 0]) (by simp[results,Tryz.results174,go_sem,Hd.agg,zO,c00,c01,c02,c03,c04,c05,c06,c07,c08,c09,c10,c11,c12,c13]) I (rW.mk I ?_);clear p0 p1 p2 p3;clear c00 f00 c30 c01 f01 c31 c02 f02 c32 c03 f03 c33 c04 f04 c34 c05 f05 c35 c06 f06 c36 c07 f07 c37 c08 f08 c38 c09 f09 c39 c10 f10 c20 c11 f11 c21 c12 f12 c22 c13 f13 c23;go_grown
theorem afJ(n k:Nat):((n:Int)/(k:Int)%2==1)=z7 n k:=by
 unfold z7;rw[Bool.eq_iff_iff];simp only[beq_iff_eq];constructor<;>intro h<;>omega
theorem IZ(n m:Int)(w:World):Calls prog 137 #[.int .i64 n,.int .i64 m] w (uQ (.bool (decide (0<=n/\n<=m))) w):=by
 by_cases h0:0<=n
 ·
  by_cases U:n<=m;all_goals
   go_enter func137,ntmps137;go_wp2;go_ret;exact uQ.mk (xJ (by simp[h0,U])) I
 ·go_enter func137,ntmps137;go_wp2;go_ret;exact uQ.mk (xJ aB) I
theorem uF(n m:Int)(w:World)(h:0<=n/\n<=m):Calls prog 137 #[.int .i64 n,.int .i64 m] w (uQ (.bool true) w):=by
 have:=IZ n m w;rwa[decide_eq_true h]at this
theorem y6(n m:Int)(w:World)(h:¬(0<=n/\n<=m)):Calls prog 137 #[.int .i64 n,.int .i64 m] w (uQ (.bool false) w):=by
 have:=IZ n m w;rwa[decide_eq_false h]at this
def Hd.ok(h:Hd):Bool:=decide (0<=h.id/\h.id<=65535)&&decide (0<=h.op/\h.op<=15)&&decide (0<=h.rc/\h.rc<=15)
def uM(b:Bool)(n:Int):Int:=if b then n else 0
theorem sB(b:Bool)(n:Int)(h:0<=n):0<=uM b n/\uM b n<=n:=by cases b<;>simp[uM]<;>omega
theorem EF(b:Bool)(n:Int)(w:World):Calls prog 135 #[.bool b,.int .i64 n] w (uQ (.int .i64 (uM b n)) w):=by
 cases b;all_goals
  go_enter func135,ntmps135;go_wp2;exact mY
theorem yl(h:Hd)(w:World):Calls prog 132 #[h.agg] w (rW (.int .i64 (if h.ok then 0 else 4)) w):=by
 obtain⟨id,qr,op,aa,tc,rd,ra,ad,cd,rc⟩:=h;simp only[Hd.agg];by_cases U:0<=id/\id<=65535
 ·
  by_cases F:0<=op/\op<=15
  ·
   by_cases h3:0<=rc/\rc<=15
   ·rw[show Hd.ok _=true by simp[Hd.ok,U,F,h3]];go_enter func132,ntmps132;go_wp2_with(go_at_call 137;refine(uF _ _ _ aV).mono ?_;rintro e w' ⟨rfl,rfl⟩);go_ret;exact rW.mk I bi
   ·rw[show Hd.ok _=false by simp[Hd.ok,U,F,h3]];exact oi
  ·rw[show Hd.ok _=false by simp[Hd.ok,U,F]];exact oi
 ·rw[show Hd.ok _=false by simp[Hd.ok,U]];go_enter func132,ntmps132;go_wp2_with(go_at_call 137;refine(y6 _ _ _ aV).mono ?_;rintro e w' ⟨rfl,rfl⟩);go_ret;exact rW.mk I bi
def Hd.num(h:Hd):Int:=uM h.qr 32768+h.op*2048+uM h.aa 1024+uM h.tc 512+uM h.rd 256+uM h.ra 128+uM h.ad 32+uM h.cd 16+h.rc
def uB(h:Hd)(c0 c1 c2 c3:Int):List UInt8:=rP 2 h.id++rP 2 h.num++rP 2 c0++rP 2 c1++rP 2 c2++rP 2 c3
theorem P4(h:Hd)(c0 c1 c2 c3:Int)(w:World)(O:h.ok=false):
  Calls prog 121 #[h.agg,zO c0 c1 c2 c3] w (rW (.tuple #[.string (bs []),.int .i64 4]) w):=by
 simp only[Hd.agg,zO];go_enter func121,ntmps121;go_wp2_with fail;refine(yl h _).mono ?_;rw[O];rintro e B ⟨rfl,b1⟩;go_wp2_with fail;go_ret2;exact rW.mk I (rC bi aB b1)
theorem TC(h:Hd)(c0 c1 c2 c3:Int)(w:World)(O:h.ok=true)(g0:0<=c0/\c0<=65535)(g1:0<=c1/\c1<=65535)(g2:0<=c2/\c2<=65535)(g3:0<=c3/\c3<=65535):
  Calls prog 121 #[h.agg,zO c0 c1 c2 c3] w (rW (.tuple #[.string (bs (uB h c0 c1 c2 c3)),.int .i64 0]) w):=by
 have hr:(0<=h.id/\h.id<=65535)/\(0<=h.op/\h.op<=15)/\(0<=h.rc/\h.rc<=15):=gU;obtain⟨⟨i0,i1⟩,⟨o0,o1⟩,⟨r0,r1⟩⟩:=hr;have i10:∀w:World,(Instr.index 210 (.agg #[.int .i64 c0,.int .i64 c1,.int .i64 c2,.int .i64 c3]) (.int .i64 0)).run prog w= .ok (.int .i64 c0) w:=fun _=>by kernel_rfl
 have i11:∀w:World,(Instr.index 210 (.agg #[.int .i64 c0,.int .i64 c1,.int .i64 c2,.int .i64 c3]) (.int .i64 1)).run prog w= .ok (.int .i64 c1) w:=fun _=>by kernel_rfl
 have i12:∀w:World,(Instr.index 210 (.agg #[.int .i64 c0,.int .i64 c1,.int .i64 c2,.int .i64 c3]) (.int .i64 2)).run prog w= .ok (.int .i64 c2) w:=fun _=>by kernel_rfl
 have i13:∀w:World,(Instr.index 210 (.agg #[.int .i64 c0,.int .i64 c1,.int .i64 c2,.int .i64 c3]) (.int .i64 3)).run prog w= .ok (.int .i64 c3) w:=fun _=>by kernel_rfl
 have HK:=J O;clear O;simp only[Hd.agg,zO];go_enter func121,ntmps121;go_wp2_with fail;refine(yl h _).mono ?_;rw[HK.out];rintro e B ⟨rfl,b1⟩;have k0:N B w.heap.size 166 h.uY:=gQ;have k1:N B (w.heap.size+1) 210 [.int .i64 c0,.int .i64 c1,.int .i64 c2,.int .i64 c3]:=gA;have hB:ao w B:=jC;clear b1;have e0:=k0.rD 0 I;have e1:=k0.rD 1 I;have e2:=k0.rD 2 I;have e3:=k0.rD 3 I;have e4:=k0.rD 4 I;have e5:=k0.rD 5 I;have e6:=k0.rD 6 I;have e7:=k0.rD 7 I;have e8:=k0.rD 8 I;have e9:=k0.rD 9 I;obtain⟨ahz,ahy⟩:=sB h.qr 32768 K;obtain⟨aic,aib⟩:=sB h.aa 1024 K;obtain⟨ajV,ajS⟩:=sB h.tc 512 K;obtain⟨ajW,ajT⟩:=sB h.rd 256 K;obtain⟨ajX,ajU⟩:=sB h.ra 128 K;obtain⟨l32,m32⟩:=sB h.ad 32 K;obtain⟨l16,m16⟩:=sB h.cd 16 K;go_wp2_with fail;go_quiet((go_at_call 135;exact uQ.quiet (EF _ _ _)));obtain⟨W,hW⟩:∃W,W=B.drewN nq:=gh;rw[<-hW];have hBW:ao w W:=iS;have k2:N W (w.heap.size+1) 210 [.int .i64 c0,.int .i64 c1,.int .i64 c2,.int .i64 c3]:=jL;have k3:N W w.heap.size 166 h.uY:=jM;clear hW k0 k1 hB e0 e1 e2 e3 e4 e5 e6 e7 e8 e9 ahz aic ajV ajW ajX l32 l16 ahy aib ajS ajT ajU m32 m16;clear B;have e0:=k3.rD 0 I;rw[show uM h.qr 32768+h.op*2048+uM h.aa 1024+uM h.tc 512+uM h.rd 256+uM h.ra 128+uM h.ad 32+uM h.cd 16+h.rc=h.num from I];go_wp2_with fail;refine(tK _ _ _).mono ?_;rintro e w2 ⟨rfl,b2⟩;rw[show hw 2=2 from I];have hB2:=rC hBW hBW.size b2;go_wp2_with fail;refine(tK _ _ _).mono ?_;rintro e w3 ⟨rfl,b3⟩;rw[show hw 2=2 from I];have hB3:=rC hB2 hB2.size b3;have k4:=(k2.G b2 k2.lt);have k5:=k4.G b3 k4.lt;have d0:=k5.rD 0 I;have d1:=k5.rD 1 I;have d2:=k5.rD 2 I;have d3:=k5.rD 3 I;have n0:=rL 2 h.id;have n1:=rL 2 h.num;generalize hp:rP 2 h.id=p at*;generalize hq:rP 2 h.num=q at*;have Hp:=J hp;have Hq:=J hq;have pl:p.length<=2:=Y;have ql:q.length<=2:=Y;clear hp hq n0 n1 k2 k3 k4 k5 e0 hBW hB2 b2 b3;go_wp2_with fail;refine wp_loop_rounds 5 ?_;rw[rounds_succ];go_wp2_with fail;refine(uF _ _ _ g0).mono ?_;rintro e w' ⟨rfl,rfl⟩;go_wp2_with fail;refine(tK _ _ _).mono ?_;rintro e v0 ⟨rfl,a0⟩;rw[show hw 2=2 from I];have hC0:=rC hB3 hB3.size a0;have z0:=rL 2 c0;generalize hz0:rP 2 c0=y0 at*;have Hz0:=J hz0;have yl0:y0.length<=2:=Y;clear hz0 z0;go_wp2_with fail;rw[rounds_succ];go_wp2_with fail;refine(uF _ _ _ g1).mono ?_;rintro e w' ⟨rfl,rfl⟩;go_wp2_with fail;refine(tK _ _ _).mono ?_;rintro e v1 ⟨rfl,a1⟩;rw[show hw 2=2 from I];have hC1:=rC hC0 hC0.size a1;have z1:=rL 2 c1;generalize hz1:rP 2 c1=y1 at*;have Hz1:=J hz1;have yl1:y1.length<=2:=Y;clear hz1 z1;go_wp2_with fail;rw[rounds_succ];go_wp2_with fail;refine(uF _ _ _ g2).mono ?_;rintro e w' ⟨rfl,rfl⟩;go_wp2_with fail;refine(tK _ _ _).mono ?_;rintro e v2 ⟨rfl,a2⟩;rw[show hw 2=2 from I];have hC2:=rC hC1 hC1.size a2;have z2:=rL 2 c2;generalize hz2:rP 2 c2=y2 at*;have Hz2:=J hz2;have yl2:y2.length<=2:=Y;clear hz2 z2;go_wp2_with fail;rw[rounds_succ];go_wp2_with fail;refine(uF _ _ _ g3).mono ?_;rintro e w' ⟨rfl,rfl⟩;go_wp2_with fail;refine(tK _ _ _).mono ?_;rintro e v3 ⟨rfl,a3⟩;rw[show hw 2=2 from I];have hC3:=rC hC2 hC2.size a3;have z3:=rL 2 c3;generalize hz3:rP 2 c3=y3 at*;have Hz3:=J hz3;have yl3:y3.length<=2:=Y;clear hz3 z3;go_wp2_with fail;rw[rounds_succ];go_wp2_with fail;go_ret2;refine rW.mk ?_ hC3;simp only[uB,Hp.out,Hq.out,Hz0.out,Hz1.out,Hz2.out,Hz3.out,List.append_assoc];rfl
theorem NO(h:Hd)(c0 c1 c2 c3:Int)(w:World)(O:h.ok=true)(g0:¬(0<=c0/\c0<=65535)):
  Calls prog 121 #[h.agg,zO c0 c1 c2 c3] w (rW (.tuple #[.string (bs []),.int .i64 4]) w):=by
 have hr:(0<=h.id/\h.id<=65535)/\(0<=h.op/\h.op<=15)/\(0<=h.rc/\h.rc<=15):=gU;obtain⟨⟨i0,i1⟩,⟨o0,o1⟩,⟨r0,r1⟩⟩:=hr;have i10:∀w:World,(Instr.index 210 (.agg #[.int .i64 c0,.int .i64 c1,.int .i64 c2,.int .i64 c3]) (.int .i64 0)).run prog w= .ok (.int .i64 c0) w:=fun _=>by kernel_rfl
 have i11:∀w:World,(Instr.index 210 (.agg #[.int .i64 c0,.int .i64 c1,.int .i64 c2,.int .i64 c3]) (.int .i64 1)).run prog w= .ok (.int .i64 c1) w:=fun _=>by kernel_rfl
 have i12:∀w:World,(Instr.index 210 (.agg #[.int .i64 c0,.int .i64 c1,.int .i64 c2,.int .i64 c3]) (.int .i64 2)).run prog w= .ok (.int .i64 c2) w:=fun _=>by kernel_rfl
 have i13:∀w:World,(Instr.index 210 (.agg #[.int .i64 c0,.int .i64 c1,.int .i64 c2,.int .i64 c3]) (.int .i64 3)).run prog w= .ok (.int .i64 c3) w:=fun _=>by kernel_rfl
 have HK:=J O;clear O;simp only[Hd.agg,zO];go_enter func121,ntmps121;go_wp2_with fail;refine(yl h _).mono ?_;rw[HK.out];rintro e B ⟨rfl,b1⟩;have k0:N B w.heap.size 166 h.uY:=gQ;have k1:N B (w.heap.size+1) 210 [.int .i64 c0,.int .i64 c1,.int .i64 c2,.int .i64 c3]:=gA;have hB:ao w B:=jC;clear b1;have e0:=k0.rD 0 I;have e1:=k0.rD 1 I;have e2:=k0.rD 2 I;have e3:=k0.rD 3 I;have e4:=k0.rD 4 I;have e5:=k0.rD 5 I;have e6:=k0.rD 6 I;have e7:=k0.rD 7 I;have e8:=k0.rD 8 I;have e9:=k0.rD 9 I;obtain⟨ahz,ahy⟩:=sB h.qr 32768 K;obtain⟨aic,aib⟩:=sB h.aa 1024 K;obtain⟨ajV,ajS⟩:=sB h.tc 512 K;obtain⟨ajW,ajT⟩:=sB h.rd 256 K;obtain⟨ajX,ajU⟩:=sB h.ra 128 K;obtain⟨l32,m32⟩:=sB h.ad 32 K;obtain⟨l16,m16⟩:=sB h.cd 16 K;go_wp2_with fail;go_quiet((go_at_call 135;exact uQ.quiet (EF _ _ _)));obtain⟨W,hW⟩:∃W,W=B.drewN nq:=gh;rw[<-hW];have hBW:ao w W:=iS;have k2:N W (w.heap.size+1) 210 [.int .i64 c0,.int .i64 c1,.int .i64 c2,.int .i64 c3]:=jL;have k3:N W w.heap.size 166 h.uY:=jM;clear hW k0 k1 hB e0 e1 e2 e3 e4 e5 e6 e7 e8 e9 ahz aic ajV ajW ajX l32 l16 ahy aib ajS ajT ajU m32 m16;clear B;have e0:=k3.rD 0 I;rw[show uM h.qr 32768+h.op*2048+uM h.aa 1024+uM h.tc 512+uM h.rd 256+uM h.ra 128+uM h.ad 32+uM h.cd 16+h.rc=h.num from I];go_wp2_with fail;refine(tK _ _ _).mono ?_;rintro e w2 ⟨rfl,b2⟩;rw[show hw 2=2 from I];have hB2:=rC hBW hBW.size b2;go_wp2_with fail;refine(tK _ _ _).mono ?_;rintro e w3 ⟨rfl,b3⟩;rw[show hw 2=2 from I];have hB3:=rC hB2 hB2.size b3;have k4:=(k2.G b2 k2.lt);have k5:=k4.G b3 k4.lt;have d0:=k5.rD 0 I;have d1:=k5.rD 1 I;have d2:=k5.rD 2 I;have d3:=k5.rD 3 I;have n0:=rL 2 h.id;have n1:=rL 2 h.num;generalize hp:rP 2 h.id=p at*;generalize hq:rP 2 h.num=q at*;have Hp:=J hp;have Hq:=J hq;have pl:p.length<=2:=Y;have ql:q.length<=2:=Y;clear hp hq n0 n1 k2 k3 k4 k5 e0 hBW hB2 b2 b3;go_wp2_with fail;refine wp_loop_rounds 5 ?_;rw[rounds_succ];go_wp2_with fail;refine(y6 _ _ _ g0).mono ?_;rintro e w' ⟨rfl,rfl⟩;go_wp2_with fail;go_ret2;exact rW.mk I hB3
theorem NP(h:Hd)(c0 c1 c2 c3:Int)(w:World)(O:h.ok=true)(g0:0<=c0/\c0<=65535)(g1:¬(0<=c1/\c1<=65535)):
  Calls prog 121 #[h.agg,zO c0 c1 c2 c3] w (rW (.tuple #[.string (bs []),.int .i64 4]) w):=by
 have hr:(0<=h.id/\h.id<=65535)/\(0<=h.op/\h.op<=15)/\(0<=h.rc/\h.rc<=15):=gU;obtain⟨⟨i0,i1⟩,⟨o0,o1⟩,⟨r0,r1⟩⟩:=hr;have i10:∀w:World,(Instr.index 210 (.agg #[.int .i64 c0,.int .i64 c1,.int .i64 c2,.int .i64 c3]) (.int .i64 0)).run prog w= .ok (.int .i64 c0) w:=fun _=>by kernel_rfl
 have i11:∀w:World,(Instr.index 210 (.agg #[.int .i64 c0,.int .i64 c1,.int .i64 c2,.int .i64 c3]) (.int .i64 1)).run prog w= .ok (.int .i64 c1) w:=fun _=>by kernel_rfl
 have i12:∀w:World,(Instr.index 210 (.agg #[.int .i64 c0,.int .i64 c1,.int .i64 c2,.int .i64 c3]) (.int .i64 2)).run prog w= .ok (.int .i64 c2) w:=fun _=>by kernel_rfl
 have i13:∀w:World,(Instr.index 210 (.agg #[.int .i64 c0,.int .i64 c1,.int .i64 c2,.int .i64 c3]) (.int .i64 3)).run prog w= .ok (.int .i64 c3) w:=fun _=>by kernel_rfl
 have HK:=J O;clear O;simp only[Hd.agg,zO];go_enter func121,ntmps121;go_wp2_with fail;refine(yl h _).mono ?_;rw[HK.out];rintro e B ⟨rfl,b1⟩;have k0:N B w.heap.size 166 h.uY:=gQ;have k1:N B (w.heap.size+1) 210 [.int .i64 c0,.int .i64 c1,.int .i64 c2,.int .i64 c3]:=gA;have hB:ao w B:=jC;clear b1;have e0:=k0.rD 0 I;have e1:=k0.rD 1 I;have e2:=k0.rD 2 I;have e3:=k0.rD 3 I;have e4:=k0.rD 4 I;have e5:=k0.rD 5 I;have e6:=k0.rD 6 I;have e7:=k0.rD 7 I;have e8:=k0.rD 8 I;have e9:=k0.rD 9 I;obtain⟨ahz,ahy⟩:=sB h.qr 32768 K;obtain⟨aic,aib⟩:=sB h.aa 1024 K;obtain⟨ajV,ajS⟩:=sB h.tc 512 K;obtain⟨ajW,ajT⟩:=sB h.rd 256 K;obtain⟨ajX,ajU⟩:=sB h.ra 128 K;obtain⟨l32,m32⟩:=sB h.ad 32 K;obtain⟨l16,m16⟩:=sB h.cd 16 K;go_wp2_with fail;go_quiet((go_at_call 135;exact uQ.quiet (EF _ _ _)));obtain⟨W,hW⟩:∃W,W=B.drewN nq:=gh;rw[<-hW];have hBW:ao w W:=iS;have k2:N W (w.heap.size+1) 210 [.int .i64 c0,.int .i64 c1,.int .i64 c2,.int .i64 c3]:=jL;have k3:N W w.heap.size 166 h.uY:=jM;clear hW k0 k1 hB e0 e1 e2 e3 e4 e5 e6 e7 e8 e9 ahz aic ajV ajW ajX l32 l16 ahy aib ajS ajT ajU m32 m16;clear B;have e0:=k3.rD 0 I;rw[show uM h.qr 32768+h.op*2048+uM h.aa 1024+uM h.tc 512+uM h.rd 256+uM h.ra 128+uM h.ad 32+uM h.cd 16+h.rc=h.num from I];go_wp2_with fail;refine(tK _ _ _).mono ?_;rintro e w2 ⟨rfl,b2⟩;rw[show hw 2=2 from I];have hB2:=rC hBW hBW.size b2;go_wp2_with fail;refine(tK _ _ _).mono ?_;rintro e w3 ⟨rfl,b3⟩;rw[show hw 2=2 from I];have hB3:=rC hB2 hB2.size b3;have k4:=(k2.G b2 k2.lt);have k5:=k4.G b3 k4.lt;have d0:=k5.rD 0 I;have d1:=k5.rD 1 I;have d2:=k5.rD 2 I;have d3:=k5.rD 3 I;have n0:=rL 2 h.id;have n1:=rL 2 h.num;generalize hp:rP 2 h.id=p at*;generalize hq:rP 2 h.num=q at*;have Hp:=J hp;have Hq:=J hq;have pl:p.length<=2:=Y;have ql:q.length<=2:=Y;clear hp hq n0 n1 k2 k3 k4 k5 e0 hBW hB2 b2 b3;go_wp2_with fail;refine wp_loop_rounds 5 ?_;rw[rounds_succ];go_wp2_with fail;refine(uF _ _ _ g0).mono ?_;rintro e w' ⟨rfl,rfl⟩;go_wp2_with fail;refine(tK _ _ _).mono ?_;rintro e v0 ⟨rfl,a0⟩;rw[show hw 2=2 from I];have hC0:=rC hB3 hB3.size a0;have z0:=rL 2 c0;generalize hz0:rP 2 c0=y0 at*;have Hz0:=J hz0;have yl0:y0.length<=2:=Y;clear hz0 z0;go_wp2_with fail;rw[rounds_succ];go_wp2_with fail;refine(y6 _ _ _ g1).mono ?_;rintro e w' ⟨rfl,rfl⟩;go_wp2_with fail;go_ret2;exact rW.mk I hC0
theorem NQ(h:Hd)(c0 c1 c2 c3:Int)(w:World)(O:h.ok=true)(g0:0<=c0/\c0<=65535)(g1:0<=c1/\c1<=65535)(g2:¬(0<=c2/\c2<=65535)):
  Calls prog 121 #[h.agg,zO c0 c1 c2 c3] w (rW (.tuple #[.string (bs []),.int .i64 4]) w):=by
 have hr:(0<=h.id/\h.id<=65535)/\(0<=h.op/\h.op<=15)/\(0<=h.rc/\h.rc<=15):=gU;obtain⟨⟨i0,i1⟩,⟨o0,o1⟩,⟨r0,r1⟩⟩:=hr;have i10:∀w:World,(Instr.index 210 (.agg #[.int .i64 c0,.int .i64 c1,.int .i64 c2,.int .i64 c3]) (.int .i64 0)).run prog w= .ok (.int .i64 c0) w:=fun _=>by kernel_rfl
 have i11:∀w:World,(Instr.index 210 (.agg #[.int .i64 c0,.int .i64 c1,.int .i64 c2,.int .i64 c3]) (.int .i64 1)).run prog w= .ok (.int .i64 c1) w:=fun _=>by kernel_rfl
 have i12:∀w:World,(Instr.index 210 (.agg #[.int .i64 c0,.int .i64 c1,.int .i64 c2,.int .i64 c3]) (.int .i64 2)).run prog w= .ok (.int .i64 c2) w:=fun _=>by kernel_rfl
 have i13:∀w:World,(Instr.index 210 (.agg #[.int .i64 c0,.int .i64 c1,.int .i64 c2,.int .i64 c3]) (.int .i64 3)).run prog w= .ok (.int .i64 c3) w:=fun _=>by kernel_rfl
 have HK:=J O;clear O;simp only[Hd.agg,zO];go_enter func121,ntmps121;go_wp2_with fail;refine(yl h _).mono ?_;rw[HK.out];rintro e B ⟨rfl,b1⟩;have k0:N B w.heap.size 166 h.uY:=gQ;have k1:N B (w.heap.size+1) 210 [.int .i64 c0,.int .i64 c1,.int .i64 c2,.int .i64 c3]:=gA;have hB:ao w B:=jC;clear b1;have e0:=k0.rD 0 I;have e1:=k0.rD 1 I;have e2:=k0.rD 2 I;have e3:=k0.rD 3 I;have e4:=k0.rD 4 I;have e5:=k0.rD 5 I;have e6:=k0.rD 6 I;have e7:=k0.rD 7 I;have e8:=k0.rD 8 I;have e9:=k0.rD 9 I;obtain⟨ahz,ahy⟩:=sB h.qr 32768 K;obtain⟨aic,aib⟩:=sB h.aa 1024 K;obtain⟨ajV,ajS⟩:=sB h.tc 512 K;obtain⟨ajW,ajT⟩:=sB h.rd 256 K;obtain⟨ajX,ajU⟩:=sB h.ra 128 K;obtain⟨l32,m32⟩:=sB h.ad 32 K;obtain⟨l16,m16⟩:=sB h.cd 16 K;go_wp2_with fail;go_quiet((go_at_call 135;exact uQ.quiet (EF _ _ _)));obtain⟨W,hW⟩:∃W,W=B.drewN nq:=gh;rw[<-hW];have hBW:ao w W:=iS;have k2:N W (w.heap.size+1) 210 [.int .i64 c0,.int .i64 c1,.int .i64 c2,.int .i64 c3]:=jL;have k3:N W w.heap.size 166 h.uY:=jM;clear hW k0 k1 hB e0 e1 e2 e3 e4 e5 e6 e7 e8 e9 ahz aic ajV ajW ajX l32 l16 ahy aib ajS ajT ajU m32 m16;clear B;have e0:=k3.rD 0 I;rw[show uM h.qr 32768+h.op*2048+uM h.aa 1024+uM h.tc 512+uM h.rd 256+uM h.ra 128+uM h.ad 32+uM h.cd 16+h.rc=h.num from I];go_wp2_with fail;refine(tK _ _ _).mono ?_;rintro e w2 ⟨rfl,b2⟩;rw[show hw 2=2 from I];have hB2:=rC hBW hBW.size b2;go_wp2_with fail;refine(tK _ _ _).mono ?_;rintro e w3 ⟨rfl,b3⟩;rw[show hw 2=2 from I];have hB3:=rC hB2 hB2.size b3;have k4:=(k2.G b2 k2.lt);have k5:=k4.G b3 k4.lt;have d0:=k5.rD 0 I;have d1:=k5.rD 1 I;have d2:=k5.rD 2 I;have d3:=k5.rD 3 I;have n0:=rL 2 h.id;have n1:=rL 2 h.num;generalize hp:rP 2 h.id=p at*;generalize hq:rP 2 h.num=q at*;have Hp:=J hp;have Hq:=J hq;have pl:p.length<=2:=Y;have ql:q.length<=2:=Y;clear hp hq n0 n1 k2 k3 k4 k5 e0 hBW hB2 b2 b3;go_wp2_with fail;refine wp_loop_rounds 5 ?_;rw[rounds_succ];go_wp2_with fail;refine(uF _ _ _ g0).mono ?_;rintro e w' ⟨rfl,rfl⟩;go_wp2_with fail;refine(tK _ _ _).mono ?_;rintro e v0 ⟨rfl,a0⟩;rw[show hw 2=2 from I];have hC0:=rC hB3 hB3.size a0;have z0:=rL 2 c0;generalize hz0:rP 2 c0=y0 at*;have Hz0:=J hz0;have yl0:y0.length<=2:=Y;clear hz0 z0;go_wp2_with fail;rw[rounds_succ];go_wp2_with fail;refine(uF _ _ _ g1).mono ?_;rintro e w' ⟨rfl,rfl⟩;go_wp2_with fail;refine(tK _ _ _).mono ?_;rintro e v1 ⟨rfl,a1⟩;rw[show hw 2=2 from I];have hC1:=rC hC0 hC0.size a1;have z1:=rL 2 c1;generalize hz1:rP 2 c1=y1 at*;have Hz1:=J hz1;have yl1:y1.length<=2:=Y;clear hz1 z1;go_wp2_with fail;rw[rounds_succ];go_wp2_with fail;refine(y6 _ _ _ g2).mono ?_;rintro e w' ⟨rfl,rfl⟩;go_wp2_with fail;go_ret2;exact rW.mk I hC1
theorem NR(h:Hd)(c0 c1 c2 c3:Int)(w:World)(O:h.ok=true)(g0:0<=c0/\c0<=65535)(g1:0<=c1/\c1<=65535)(g2:0<=c2/\c2<=65535)(g3:¬(0<=c3/\c3<=65535)):
  Calls prog 121 #[h.agg,zO c0 c1 c2 c3] w (rW (.tuple #[.string (bs []),.int .i64 4]) w):=by
 have hr:(0<=h.id/\h.id<=65535)/\(0<=h.op/\h.op<=15)/\(0<=h.rc/\h.rc<=15):=gU;obtain⟨⟨i0,i1⟩,⟨o0,o1⟩,⟨r0,r1⟩⟩:=hr;have i10:∀w:World,(Instr.index 210 (.agg #[.int .i64 c0,.int .i64 c1,.int .i64 c2,.int .i64 c3]) (.int .i64 0)).run prog w= .ok (.int .i64 c0) w:=fun _=>by kernel_rfl
 have i11:∀w:World,(Instr.index 210 (.agg #[.int .i64 c0,.int .i64 c1,.int .i64 c2,.int .i64 c3]) (.int .i64 1)).run prog w= .ok (.int .i64 c1) w:=fun _=>by kernel_rfl
 have i12:∀w:World,(Instr.index 210 (.agg #[.int .i64 c0,.int .i64 c1,.int .i64 c2,.int .i64 c3]) (.int .i64 2)).run prog w= .ok (.int .i64 c2) w:=fun _=>by kernel_rfl
 have i13:∀w:World,(Instr.index 210 (.agg #[.int .i64 c0,.int .i64 c1,.int .i64 c2,.int .i64 c3]) (.int .i64 3)).run prog w= .ok (.int .i64 c3) w:=fun _=>by kernel_rfl
 have HK:=J O;clear O;simp only[Hd.agg,zO];go_enter func121,ntmps121;go_wp2_with fail;refine(yl h _).mono ?_;rw[HK.out];rintro e B ⟨rfl,b1⟩;have k0:N B w.heap.size 166 h.uY:=gQ;have k1:N B (w.heap.size+1) 210 [.int .i64 c0,.int .i64 c1,.int .i64 c2,.int .i64 c3]:=gA;have hB:ao w B:=jC;clear b1;have e0:=k0.rD 0 I;have e1:=k0.rD 1 I;have e2:=k0.rD 2 I;have e3:=k0.rD 3 I;have e4:=k0.rD 4 I;have e5:=k0.rD 5 I;have e6:=k0.rD 6 I;have e7:=k0.rD 7 I;have e8:=k0.rD 8 I;have e9:=k0.rD 9 I;obtain⟨ahz,ahy⟩:=sB h.qr 32768 K;obtain⟨aic,aib⟩:=sB h.aa 1024 K;obtain⟨ajV,ajS⟩:=sB h.tc 512 K;obtain⟨ajW,ajT⟩:=sB h.rd 256 K;obtain⟨ajX,ajU⟩:=sB h.ra 128 K;obtain⟨l32,m32⟩:=sB h.ad 32 K;obtain⟨l16,m16⟩:=sB h.cd 16 K;go_wp2_with fail;go_quiet((go_at_call 135;exact uQ.quiet (EF _ _ _)));obtain⟨W,hW⟩:∃W,W=B.drewN nq:=gh;rw[<-hW];have hBW:ao w W:=iS;have k2:N W (w.heap.size+1) 210 [.int .i64 c0,.int .i64 c1,.int .i64 c2,.int .i64 c3]:=jL;have k3:N W w.heap.size 166 h.uY:=jM;clear hW k0 k1 hB e0 e1 e2 e3 e4 e5 e6 e7 e8 e9 ahz aic ajV ajW ajX l32 l16 ahy aib ajS ajT ajU m32 m16;clear B;have e0:=k3.rD 0 I;rw[show uM h.qr 32768+h.op*2048+uM h.aa 1024+uM h.tc 512+uM h.rd 256+uM h.ra 128+uM h.ad 32+uM h.cd 16+h.rc=h.num from I];go_wp2_with fail;refine(tK _ _ _).mono ?_;rintro e w2 ⟨rfl,b2⟩;rw[show hw 2=2 from I];have hB2:=rC hBW hBW.size b2;go_wp2_with fail;refine(tK _ _ _).mono ?_;rintro e w3 ⟨rfl,b3⟩;rw[show hw 2=2 from I];have hB3:=rC hB2 hB2.size b3;have k4:=(k2.G b2 k2.lt);have k5:=k4.G b3 k4.lt;have d0:=k5.rD 0 I;have d1:=k5.rD 1 I;have d2:=k5.rD 2 I;have d3:=k5.rD 3 I;have n0:=rL 2 h.id;have n1:=rL 2 h.num;generalize hp:rP 2 h.id=p at*;generalize hq:rP 2 h.num=q at*;have Hp:=J hp;have Hq:=J hq;have pl:p.length<=2:=Y;have ql:q.length<=2:=Y;clear hp hq n0 n1 k2 k3 k4 k5 e0 hBW hB2 b2 b3;go_wp2_with fail;refine wp_loop_rounds 5 ?_;rw[rounds_succ];go_wp2_with fail;refine(uF _ _ _ g0).mono ?_;rintro e w' ⟨rfl,rfl⟩;go_wp2_with fail;refine(tK _ _ _).mono ?_;rintro e v0 ⟨rfl,a0⟩;rw[show hw 2=2 from I];have hC0:=rC hB3 hB3.size a0;have z0:=rL 2 c0;generalize hz0:rP 2 c0=y0 at*;have Hz0:=J hz0;have yl0:y0.length<=2:=Y;clear hz0 z0;go_wp2_with fail;rw[rounds_succ];go_wp2_with fail;refine(uF _ _ _ g1).mono ?_;rintro e w' ⟨rfl,rfl⟩;go_wp2_with fail;refine(tK _ _ _).mono ?_;rintro e v1 ⟨rfl,a1⟩;rw[show hw 2=2 from I];have hC1:=rC hC0 hC0.size a1;have z1:=rL 2 c1;generalize hz1:rP 2 c1=y1 at*;have Hz1:=J hz1;have yl1:y1.length<=2:=Y;clear hz1 z1;go_wp2_with fail;rw[rounds_succ];go_wp2_with fail;refine(uF _ _ _ g2).mono ?_;rintro e w' ⟨rfl,rfl⟩;go_wp2_with fail;refine(tK _ _ _).mono ?_;rintro e v2 ⟨rfl,a2⟩;rw[show hw 2=2 from I];have hC2:=rC hC1 hC1.size a2;have z2:=rL 2 c2;generalize hz2:rP 2 c2=y2 at*;have Hz2:=J hz2;have yl2:y2.length<=2:=Y;clear hz2 z2;go_wp2_with fail;rw[rounds_succ];go_wp2_with fail;refine(y6 _ _ _ g3).mono ?_;rintro e w' ⟨rfl,rfl⟩;go_wp2_with fail;go_ret2;exact rW.mk I hC2
def I5(h:Hd)(c0 c1 c2 c3:Int):List UInt8×Int:=
 if h.ok=true/\(0<=c0/\c0<=65535)/\(0<=c1/\c1<=65535)/\(0<=c2/\c2<=65535)/\(0<=c3/\c3<=65535)then(uB h c0 c1 c2 c3,0)else([],4)
theorem P5(h:Hd)(c0 c1 c2 c3:Int)(w:World):
  Calls prog 121 #[h.agg,zO c0 c1 c2 c3] w (rW (.tuple #[.string (bs (I5 h c0 c1 c2 c3).1),.int .i64 (I5 h c0 c1 c2 c3).2]) w):=by
 unfold I5;cases O:h.ok with
 |false=>rw[if_neg ar];exact P4 h c0 c1 c2 c3 w O
 |true=>
  by_cases g0:0<=c0/\c0<=65535
  ·
   by_cases g1:0<=c1/\c1<=65535
   ·
    by_cases g2:0<=c2/\c2<=65535
    ·
     by_cases g3:0<=c3/\c3<=65535
     ·rw[if_pos ⟨I,g0,g1,g2,g3⟩];exact TC h c0 c1 c2 c3 w O g0 g1 g2 g3
     ·rw[if_neg (fun hh=>g3 hh.2.2.2.2)];exact NR h c0 c1 c2 c3 w O g0 g1 g2 g3
    ·rw[if_neg (fun hh=>g2 hh.2.2.2.1)];exact NQ h c0 c1 c2 c3 w O g0 g1 g2
   ·rw[if_neg (fun hh=>g1 hh.2.2.1)];exact NP h c0 c1 c2 c3 w O g0 g1
  ·rw[if_neg (fun hh=>g0 hh.2.1)];exact NO h c0 c1 c2 c3 w O g0
end Go.Proofs.YtakkipnmpmobbaaGreat
