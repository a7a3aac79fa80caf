/-
  Layer 13,the reference:name,Get of what is raw,and of addresses.
-/
import Derived.Test.YthnbcmlnpdabhaaGreatHCq
namespace Go.Proofs.YthnbcmlnpdabhaaGreat
open _root_.Go.Proofs.Tryz
set_option maxHeartbeats 8000000
open Go.RowKit
set_option maxRecDepth 100000
set_option linter.unusedVariables false
set_option linter.unusedSimpArgs false
theorem Ki(m:List UInt8)(a:Nat)(w:World)(hl:m.length<=4000000):Calls prog 219 #[.string (bs m),.int .i64 a] w (Wi (Ch m a) w):=by
 have agc:=Y (Lp m a w hl);generalize Ch m a=o at*;have hE:Hid (nE o=if Xe o=1 then 5 else Xe o):=nL;unfold Dw at agc;unfold Wi;generalize nE o=y at*;generalize Xe o=x at*;generalize goB o=b at*;go_enter func219,ntmps219;exact qd
theorem EI{m:List UInt8}{a:Nat}{l:List (List UInt8)}{n:Nat}(h:Ch m a= .ok l n)(w:World)(hl:m.length<=4000000):
  Calls prog 219 #[.string (bs m),.int .i64 a] w (fun e w'=>∃v,e= .returned (.tuple #[v,.int .i64 (n:Int),.int .i64 0])/\wO w' v l/\al w w'):=by
 have:=Ki m a w hl;exact tU
theorem EJ{m:List UInt8}{a:Nat}{x:Int}(h:Ch m a= .err x)(w:World)(hl:m.length<=4000000):
  Calls prog 219 #[.string (bs m),.int .i64 a] w (fun e w'=>∃v,e= .returned (.tuple #[v,.int .i64 0,.int .i64 (if x=1 then 5 else x)])/\wO w' v []/\al w w'):=by
 have:=Ki m a w hl;exact tU
def WQ(f:Int):Int:=if f=4 then 32 else if f=6 then 128 else 0
theorem Jz(f:Int)(L:List Value)(hL:L.length=18)(h0:∀hi:0<L.length,L[0]'hi= .int .i64 f)(hf:f=4\/f=6)(w:World):Calls prog 192 #[.agg L.toArray] w (uI (.int .i64 (WQ f)) w):=by
 rcases hf with rfl|rfl;all_goals
  go_enter func192,ntmps192;exact pS
theorem TV{O N k:Int}(h:uQ O N=k)(z:k≠0):O=k:=by
 unfold uQ at h;split at h
 ·exact h
 ·omega
theorem acN(m:List UInt8)(a n:Nat)(O N:Int)(w:World)(hm:a+n<=m.length)(hl:m.length<=4000000)(z:uQ O N=0):
  Calls prog 182 #[.string (bs m),.int .i64 a,.int .i64 n,.int .i64 O,.int .i64 N] w (GN (.ok {RR.zero with raw:=(m.take (a+n)).drop a}) w):=by
 have hb:=Y (fun w=>vF O N w);rw[z]at hb;clear z;have hSl:(m.take (a+n)).length=a+n:=aA;obtain⟨k1,k2,k3,k4,k5,hs0⟩:=Hz (m:=m) (a:=a) n n J I;obtain⟨afz,HW,C10,C12,CB,CS⟩:=zZ w;replace CS:w.heap.size+2<=afz.heap.size:=I;rw[<-HW.out]at C10 C12 CB CS;clear HW;go_enter func182,ntmps182;go_wp2_with(refine ur (.store 119 (.tmp 13) (.tmp 56)) J (ab J (w.heap.size+1) 0 wm C12 bj cD wJ ?_));intro W B12 g1 _;replace B12:F W (w.heap.size+1) 119 wm:=B12;have B10:=C10.grown g1 ap;have HB:=uq CB g1 I I;clear C10 C12 CB g1 CS;go_wp2_with fail;refine(hb.out W).mono ?_;rintro _ w1 ⟨rfl,rfl⟩;clear hb;have ahb:wm.length=33:=jV;go_wp2_with(refine ur (.store 9 (.tmp 66) (.tmp 65)) J (af J (w.heap.size+1) 32 _ B12 I K9 ?_));intro w2 B2 g2 _;have A2:=B10.grown g2 ap;have ty:=uq HB g2 HB.size I;rw[List.take_take,Nat.min_self]at B2;clear B12 B10 HB g2;obtain⟨L,hL⟩:∃L,L=wm.set 32 (.string (bs ((m.take (a+n)).drop a))):=gG;rw[<-hL]at B2;replace hL:L=vX uz uz uz {RR.zero with raw:=(m.take (a+n)).drop a}:=hL;have ll:L.length=33:=Mf hL ⟨J,J⟩;have l1:Hid (∀v∈L,v.oneCell'=true):=Y bZ;have OW:Hid (∀w',uK w2 w'->xv w' L {RR.zero with raw:=(m.take (a+n)).drop a}):=js;clear hL;go_wp2_with(first
  |(refine ur (.load 119 (.tmp 13)) rfl ?_;go_must(refine uu rfl _ _ rfl (w.heap.size+1) 0 rfl B2 33 I _ underlying119 rfl uU L (wP I) ?_))
  |(refine ur (.store 119 (.tmp 10) (.tmp 217)) rfl (ab rfl w.heap.size 0 L A2 bj cf l1.out ?_)))
 exact oX
def EQ(fam:Int)(d:List UInt8)(k:Nat):RR:={RR.zero with ad:=⟨fam,d.take k++List.replicate (16-k) 0,0⟩}
theorem Cc(fam:Int)(d:List UInt8)(k:Nat)(z:k<=d.length)(h16:k<=16):(EQ fam d k).wf:=⟨by simp[EQ];omega,J⟩
theorem acO(fam:Int)(d:List UInt8):EQ fam d d.length=Nj fam d:=by unfold EQ Nj;rw[List.take_length]
theorem Yz(d:List UInt8)(k:Nat)(z:k<d.length)(h16:k<16):(d.take k++List.replicate (16-k) 0).set k d[k]=d.take (k+1)++List.replicate (16-(k+1)) 0:=by
 have hl:(d.take k).length=k:=aA;rw[List.set_append_right _ _ I,hl,Nat.sub_self,show 16-k=(16-(k+1))+1 by omega,List.replicate_succ,List.set_cons_zero,List.take_succ_eq_append_getElem z,List.append_assoc];rfl
theorem WR(fam:Int)(d:List UInt8)(k:Nat)(z:k<d.length)(h16:k<16):(vX uz uz uz (EQ fam d k)).set (5+k) (.int .u8 (d[k].toNat:Int))=vX uz uz uz (EQ fam d (k+1)):=by
 have e:(vT (d.take k++List.replicate (16-k) 0)).set k (.int .u8 (d[k].toNat:Int))=vT (d.take (k+1)++List.replicate (16-(k+1)) 0):=by rw[<-Yz d k z h16];unfold vT;rw[List.map_set]
 have hl:k<(vT (d.take k++List.replicate (16-k) 0)).length:=by simp[vT];omega
 unfold vX EQ vG.cells;simp only;rw[Nat.add_comm 5 k];simp only[List.set_cons_succ,List.cons_append,List.append_assoc];rw[List.set_append_left _ _ hl,e]
theorem MX:(prog.info? 24).map (·.size)=some 18:=by kernel_rfl
theorem acP:(prog.info? 5).map (·.size)=some 1:=by kernel_rfl
theorem WT(k:Nat)(fam:Int)(hkf:(k=1/\fam=4)\/(k=28/\fam=6))(m:List UInt8)(a n:Nat)(O N:Int)(w:World)(hm:a+n<=m.length)(hl:m.length<=4000000)(z:uQ O N=k)(hn:n=if k=1 then 4 else 16):
  Calls prog 182 #[.string (bs m),.int .i64 a,.int .i64 n,.int .i64 O,.int .i64 N] w (GN (.ok (Nj fam ((m.take (a+n)).drop a))) w):=by
 have hb:=Y (fun w=>vF O N w);have hty:O=k:=TV z (by rcases hkf with⟨rfl,_⟩|⟨rfl,_⟩<;>decide);rw[z]at hb;clear z;subst hty;have ahb:wm.length=33:=jV;have hSl:(m.take (a+n)).length=a+n:=aA;have hdl:((m.take (a+n)).drop a).length=n:=aA;have hRR:Nj fam ((m.take (a+n)).drop a)=EQ fam ((m.take (a+n)).drop a) n:=by rw[<-acO,hdl]
 rw[hRR];clear hRR hdl;have BI:=Y (fun L U X w=>Jz fam L U X I w);rcases hkf with⟨rfl,rfl⟩|⟨rfl,rfl⟩
 case inl=>
  obtain rfl:n=4:=cG;clear hn;obtain⟨k1,k2,k3,k4,k5,hs0⟩:=Hz (m:=m) (a:=a) 4 4 J I;obtain⟨afz,HW,C10,C12,CB,CS⟩:=zZ w;replace CS:w.heap.size+2<=afz.heap.size:=I;rw[<-HW.out]at C10 C12 CB CS;clear HW;go_enter func182,ntmps182;go_wp2_with(refine ur (.store 119 (.tmp 13) (.tmp 56)) J (ab J (w.heap.size+1) 0 wm C12 bj cD wJ ?_));intro W B12 g1 _;replace B12:F W (w.heap.size+1) 119 wm:=B12;have B10:=C10.grown g1 ap;have HB:=uq CB g1 I I;clear C10 C12 CB g1 CS;go_wp2_with fail;refine(hb.out W).mono ?_;rintro _ w1 ⟨rfl,rfl⟩;clear hb;generalize m.take (a+4)=S at*;go_wp2_with(refine ur (.store 3 (.tmp 71) (.const (.int .i64 4))) J (af J (w.heap.size+1) 4 (.int .i64 4) B12 I uZ ?_));intro w2 B2 g2 _;have A2:=B10.grown g2 ap;have ty:=uq HB g2 HB.size I;replace B2:F w2 (w.heap.size+1) 119 (vX uz uz uz (EQ 4 (S.drop a) 0)):=B2;clear B12 B10 HB g2;have ll:=vA (vn:=uz) (vt:=uz) (vm:=uz) (Cc 4 (S.drop a) 0 I I);have agp:=CG (vn:=uz) (vt:=uz) (vm:=uz) (Cc 4 (S.drop a) 0 I I);have hal:=(EQ 4 (S.drop a) 0).ad.uT fC;have BJ:=Y (BI.out (EQ 4 (S.drop a) 0).ad.cells hal (fun hi=>rfl));clear BI;obtain⟨LL,hLL⟩:∃LL,Hid (LL=vX uz uz uz (EQ 4 (S.drop a) 0)):=gP;rw[<-hLL.out]at ll agp B2;generalize(EQ 4 (S.drop a) 0).ad.cells=ac at*;go_wp2_with(refine ur (.load 24 (.tmp 77)) J ?_;go_must(refine uu J _ _ J (w.heap.size+1) 4 J B2 18 I _ underlying24 J MX ac agp ?_));refine(BJ.out _).mono ?_;rintro _ w3 ⟨rfl,b3⟩;replace A2:=A2.G b3 A2.lt;replace B2:=B2.G b3 B2.lt;replace ty:=um ty ty.size b3;rw[hLL.out]at B2;clear BJ b3 hLL ll agp hal;simp only[WQ];go_wp2_with fail;go_loopw[16] (fun iv wr=>∃k:Nat,k<=4/\iv= .int .i64 k/\F wr (w.heap.size+1) 119 (vX uz uz uz (EQ 4 (S.drop a) k))/\F wr w.heap.size 119 wm/\al w wr) (fun iv _=>4-(intOf iv).toNat)
  case atStart=>exact⟨0,I,J,B2,A2,ty⟩
  clear B2 A2 ty;obtain⟨k,z,rfl,B2,A2,ty⟩:=hrel;by_cases aB:k<4
  case pos=>
   have h1:(k:Int)<4:=I;have hkd:k<(S.drop a).length:=aA;have SL:=Y (WR 4 (S.drop a) k hkd I);have hwf:=Cc 4 (S.drop a) k I I;have ll:=vA (vn:=uz) (vt:=uz) (vm:=uz) hwf;obtain⟨c,hc⟩:∃c,c=(S.getD (a+k) 0).toNat:=gG;have hcd:(S.drop a)[k].toNat=c:=by rw[hc];simp[List.getD,List.getElem?_eq_getElem (show a+k<S.length by omega)]
   rw[hcd]at SL;have alY:=fun w=>Pr S (a+k) c I hc w
   rw[show(((a+k:Nat)):Int)=(a:Int)+k by omega]at alY;clear hcd hc hwf;generalize vX uz uz uz (EQ 4 (S.drop a) k)=LL at*;exact pV
  obtain rfl:k=4:=I;clear aB z;have hwf:=Cc 4 (S.drop a) 4 aA I;obtain⟨r,hr⟩:∃r,r=EQ 4 (S.drop a) 4:=gG;rw[<-hr]at hwf B2;obtain⟨L,hL⟩:∃L,L=vX uz uz uz r:=gG;rw[<-hL]at B2;have ll:L.length=33:=jv;have l1:Hid (∀v∈L,v.oneCell'=true):=Y bZ;have OW:Hid (∀w',uK wr w'->xv w' L (EQ 4 (S.drop a) 4)):=iu;have h1:¬((4:Nat):Int)<4:=I;clear hL hr hwf;go_wp2_with(first
   |(refine ur (.load 119 (.tmp 13)) rfl ?_;go_must(refine uu rfl _ _ rfl (w.heap.size+1) 0 rfl B2 33 I _ underlying119 rfl uU L (wP I) ?_))
   |(refine ur (.store 119 (.tmp 10) (.tmp 217)) rfl (ab rfl w.heap.size 0 L A2 bj cf l1.out ?_)))
  exact oX
 case inr=>
  obtain rfl:n=16:=cG;clear hn;obtain⟨k1,k2,k3,k4,k5,hs0⟩:=Hz (m:=m) (a:=a) 16 16 J I;obtain⟨afz,HW,C10,C12,CB,CS⟩:=zZ w;replace CS:w.heap.size+2<=afz.heap.size:=I;rw[<-HW.out]at C10 C12 CB CS;clear HW;go_enter func182,ntmps182;go_wp2_with(refine ur (.store 119 (.tmp 13) (.tmp 56)) J (ab J (w.heap.size+1) 0 wm C12 bj cD wJ ?_));intro W B12 g1 _;replace B12:F W (w.heap.size+1) 119 wm:=B12;have B10:=C10.grown g1 ap;have HB:=uq CB g1 I I;clear C10 C12 CB g1 CS;go_wp2_with fail;refine(hb.out W).mono ?_;rintro _ w1 ⟨rfl,rfl⟩;clear hb;generalize m.take (a+16)=S at*;go_wp2_with(refine ur (.store 3 (.tmp 71) (.const (.int .i64 4))) J (af J (w.heap.size+1) 4 (.int .i64 4) B12 I uZ ?_));intro w1 B1 g1 _;have A1:=B10.grown g1 ap;have HB1:=uq HB g1 HB.size I;clear B12 B10 HB g1;go_wp2_with(refine ur (.store 3 (.tmp 75) (.const (.int .i64 6))) J (af J (w.heap.size+1) 4 (.int .i64 6) B1 fD uZ ?_));intro w2 B2 g2 _;have A2:=A1.grown g2 ap;have ty:=uq HB1 g2 HB1.size I;replace B2:F w2 (w.heap.size+1) 119 (vX uz uz uz (EQ 6 (S.drop a) 0)):=B2;clear B1 A1 HB1 g2;have ll:=vA (vn:=uz) (vt:=uz) (vm:=uz) (Cc 6 (S.drop a) 0 I I);have agp:=CG (vn:=uz) (vt:=uz) (vm:=uz) (Cc 6 (S.drop a) 0 I I);have hal:=(EQ 6 (S.drop a) 0).ad.uT fC;have BJ:=Y (BI.out (EQ 6 (S.drop a) 0).ad.cells hal (fun hi=>rfl));clear BI;obtain⟨LL,hLL⟩:∃LL,Hid (LL=vX uz uz uz (EQ 6 (S.drop a) 0)):=gP;rw[<-hLL.out]at ll agp B2;generalize(EQ 6 (S.drop a) 0).ad.cells=ac at*;go_wp2_with(refine ur (.load 24 (.tmp 77)) J ?_;go_must(refine uu J _ _ J (w.heap.size+1) 4 J B2 18 I _ underlying24 J MX ac agp ?_));refine(BJ.out _).mono ?_;rintro _ w3 ⟨rfl,b3⟩;replace A2:=A2.G b3 A2.lt;replace B2:=B2.G b3 B2.lt;replace ty:=um ty ty.size b3;rw[hLL.out]at B2;clear BJ b3 hLL ll agp hal;simp only[WQ];go_wp2_with fail;go_loopw[16] (fun iv wr=>∃k:Nat,k<=16/\iv= .int .i64 k/\F wr (w.heap.size+1) 119 (vX uz uz uz (EQ 6 (S.drop a) k))/\F wr w.heap.size 119 wm/\al w wr) (fun iv _=>16-(intOf iv).toNat)
  case atStart=>exact⟨0,I,J,B2,A2,ty⟩
  clear B2 A2 ty;obtain⟨k,z,rfl,B2,A2,ty⟩:=hrel;by_cases aB:k<16
  case pos=>
   have h1:(k:Int)<16:=I;have hkd:k<(S.drop a).length:=aA;have SL:=Y (WR 6 (S.drop a) k hkd I);have hwf:=Cc 6 (S.drop a) k I I;have ll:=vA (vn:=uz) (vt:=uz) (vm:=uz) hwf;obtain⟨c,hc⟩:∃c,c=(S.getD (a+k) 0).toNat:=gG;have hcd:(S.drop a)[k].toNat=c:=by rw[hc];simp[List.getD,List.getElem?_eq_getElem (show a+k<S.length by omega)]
   rw[hcd]at SL;have alY:=fun w=>Pr S (a+k) c I hc w
   rw[show(((a+k:Nat)):Int)=(a:Int)+k by omega]at alY;clear hcd hc hwf;generalize vX uz uz uz (EQ 6 (S.drop a) k)=LL at*;exact pV
  obtain rfl:k=16:=I;clear aB z;have hwf:=Cc 6 (S.drop a) 16 aA I;obtain⟨r,hr⟩:∃r,r=EQ 6 (S.drop a) 16:=gG;rw[<-hr]at hwf B2;obtain⟨L,hL⟩:∃L,L=vX uz uz uz r:=gG;rw[<-hL]at B2;have ll:L.length=33:=jv;have l1:Hid (∀v∈L,v.oneCell'=true):=Y bZ;have OW:Hid (∀w',uK wr w'->xv w' L (EQ 6 (S.drop a) 16)):=iu;have h1:¬((16:Nat):Int)<16:=I;clear hL hr hwf;go_wp2_with(first
   |(refine ur (.load 119 (.tmp 13)) rfl ?_;go_must(refine uu rfl _ _ rfl (w.heap.size+1) 0 rfl B2 33 I _ underlying119 rfl uU L (wP I) ?_))
   |(refine ur (.store 119 (.tmp 10) (.tmp 217)) rfl (ab rfl w.heap.size 0 L A2 bj cf l1.out ?_)))
  exact oX
theorem MY(k:Nat)(hkf:k=1\/k=28)(m:List UInt8)(a n:Nat)(O N:Int)(w:World)(hm:a+n<=m.length)(hl:m.length<=4000000)(z:uQ O N=k)(hn:n≠if k=1 then 4 else 16):
  Calls prog 182 #[.string (bs m),.int .i64 a,.int .i64 n,.int .i64 O,.int .i64 N] w (GN (.error 5) w):=by
 have hb:=Y (fun w=>vF O N w);have hty:O=k:=TV z (by rcases hkf with rfl|rfl<;>decide);rw[z]at hb;clear z;subst hty;have ahb:wm.length=33:=jV;have hSl:(m.take (a+n)).length=a+n:=aA;rcases hkf with rfl|rfl
 case inl=>have hne:((n:Int) !=4)=true:=oK;have BI:=Y (fun L U X w=>Jz 4 L U X I w);clear hn;obtain⟨k1,k2,k3,k4,k5,hs0⟩:=Hz (m:=m) (a:=a) n n J I;obtain⟨afz,HW,C10,C12,CB,CS⟩:=zZ w;replace CS:w.heap.size+2<=afz.heap.size:=I;rw[<-HW.out]at C10 C12 CB CS;clear HW;go_enter func182,ntmps182;go_wp2_with(refine ur (.store 119 (.tmp 13) (.tmp 56)) J (ab J (w.heap.size+1) 0 wm C12 bj cD wJ ?_));intro W B12 g1 _;replace B12:F W (w.heap.size+1) 119 wm:=B12;have B10:=C10.grown g1 ap;have HB:=uq CB g1 I I;clear C10 C12 CB g1 CS;go_wp2_with fail;refine(hb.out W).mono ?_;rintro _ w1 ⟨rfl,rfl⟩;clear hb;generalize m.take (a+n)=S at*;go_wp2_with(refine ur (.store 3 (.tmp 71) (.const (.int .i64 4))) J (af J (w.heap.size+1) 4 (.int .i64 4) B12 I uZ ?_));intro w2 B2 g2 _;have A2:=B10.grown g2 ap;have ty:=uq HB g2 HB.size I;replace B2:F w2 (w.heap.size+1) 119 (vX uz uz uz (EQ 4 (S.drop a) 0)):=B2;clear B12 B10 HB g2;have ll:=vA (vn:=uz) (vt:=uz) (vm:=uz) (Cc 4 (S.drop a) 0 I I);have agp:=CG (vn:=uz) (vt:=uz) (vm:=uz) (Cc 4 (S.drop a) 0 I I);have hal:=(EQ 4 (S.drop a) 0).ad.uT fC;have BJ:=Y (BI.out (EQ 4 (S.drop a) 0).ad.cells hal (fun hi=>rfl));clear BI;obtain⟨LL,hLL⟩:∃LL,Hid (LL=vX uz uz uz (EQ 4 (S.drop a) 0)):=gP;rw[<-hLL.out]at ll agp B2;generalize(EQ 4 (S.drop a) 0).ad.cells=ac at*;exact pt
 case inr=>have hne:((n:Int) !=16)=true:=oK;have BI:=Y (fun L U X w=>Jz 6 L U X I w);clear hn;obtain⟨k1,k2,k3,k4,k5,hs0⟩:=Hz (m:=m) (a:=a) n n J I;obtain⟨afz,HW,C10,C12,CB,CS⟩:=zZ w;replace CS:w.heap.size+2<=afz.heap.size:=I;rw[<-HW.out]at C10 C12 CB CS;clear HW;go_enter func182,ntmps182;go_wp2_with(refine ur (.store 119 (.tmp 13) (.tmp 56)) J (ab J (w.heap.size+1) 0 wm C12 bj cD wJ ?_));intro W B12 g1 _;replace B12:F W (w.heap.size+1) 119 wm:=B12;have B10:=C10.grown g1 ap;have HB:=uq CB g1 I I;clear C10 C12 CB g1 CS;go_wp2_with fail;refine(hb.out W).mono ?_;rintro _ w1 ⟨rfl,rfl⟩;clear hb;generalize m.take (a+n)=S at*;go_wp2_with(refine ur (.store 3 (.tmp 71) (.const (.int .i64 4))) J (af J (w.heap.size+1) 4 (.int .i64 4) B12 I uZ ?_));intro w1 B1 g1 _;have A1:=B10.grown g1 ap;have HB1:=uq HB g1 HB.size I;clear B12 B10 HB g1;go_wp2_with(refine ur (.store 3 (.tmp 75) (.const (.int .i64 6))) J (af J (w.heap.size+1) 4 (.int .i64 6) B1 fD uZ ?_));intro w2 B2 g2 _;have A2:=A1.grown g2 ap;have ty:=uq HB1 g2 HB1.size I;replace B2:F w2 (w.heap.size+1) 119 (vX uz uz uz (EQ 6 (S.drop a) 0)):=B2;clear B1 A1 HB1 g2;have ll:=vA (vn:=uz) (vt:=uz) (vm:=uz) (Cc 6 (S.drop a) 0 I I);have agp:=CG (vn:=uz) (vt:=uz) (vm:=uz) (Cc 6 (S.drop a) 0 I I);have hal:=(EQ 6 (S.drop a) 0).ad.uT fC;have BJ:=Y (BI.out (EQ 6 (S.drop a) 0).ad.cells hal (fun hi=>rfl));clear BI;obtain⟨LL,hLL⟩:∃LL,Hid (LL=vX uz uz uz (EQ 6 (S.drop a) 0)):=gP;rw[<-hLL.out]at ll agp B2;generalize(EQ 6 (S.drop a) 0).ad.cells=ac at*;exact pt
end Go.Proofs.YthnbcmlnpdabhaaGreat
