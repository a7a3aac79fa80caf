/-
  Layer 13,the reference:name,Get of what is raw,and of addresses.
-/
import Derived.Test.YthnbcmlnpdabhaaGreatHCz
namespace Go.Proofs.YthnbcmlnpdabhaaGreat
open _root_.Go.Proofs.Tryz
set_option maxHeartbeats 8000000
open Go.RowKit
set_option maxRecDepth 100000
set_option linter.unusedVariables false
set_option linter.unusedSimpArgs false
theorem JD(m:List UInt8)(a:Nat)(w:World)(hl:m.length<=4000000):Calls prog 219 #[.string (bs m),.int .i64 a] w (Vl (Bg m a) w):=by
 have afr:=Y (KJ m a w hl);generalize Bg m a=o at*;have hE:Hid (nE o=if V5 o=1 then 5 else V5 o):=nb;unfold CP at afr;unfold Vl;generalize nE o=y at*;generalize V5 o=x at*;generalize goB o=b at*;go_enter func219,ntmps219;exact pG
theorem D8{m:List UInt8}{a:Nat}{l:List (List UInt8)}{n:Nat}(h:Bg m a= .ok l n)(w:World)(hl:m.length<=4000000):
  Calls prog 219 #[.string (bs m),.int .i64 a] w (fun e w'=>∃v,e= .returned (.tuple #[v,.int .i64 (n:Int),.int .i64 0])/\wh w' v l/\al w w'):=by
 have:=JD m a w hl;exact tu
theorem Ea{m:List UInt8}{a:Nat}{x:Int}(h:Bg m a= .err x)(w:World)(hl:m.length<=4000000):
  Calls prog 219 #[.string (bs m),.int .i64 a] w (fun e w'=>∃v,e= .returned (.tuple #[v,.int .i64 0,.int .i64 (if x=1 then 5 else x)])/\wh w' v []/\al w w'):=by
 have:=JD m a w hl;exact tu
def VP(f:Int):Int:=if f=4 then 32 else if f=6 then 128 else 0
theorem I8(f:Int)(L:List Value)(hL:L.length=18)(h0:∀hi:0<L.length,L[0]'hi= .int .i64 f)(hf:f=4\/f=6)(w:World):Calls prog 192 #[.agg L.toArray] w (uf (.int .i64 (VP f)) w):=by
 rcases hf with rfl|rfl;all_goals
  go_enter func192,ntmps192;exact pt
theorem SR{E N k:Int}(h:uo E N=k)(O:k≠0):E=k:=by
 unfold uo at h;split at h
 ·exact h
 ·omega
theorem abY(m:List UInt8)(a n:Nat)(E N:Int)(w:World)(hm:a+n<=m.length)(hl:m.length<=4000000)(O:uo E N=0):
  Calls prog 182 #[.string (bs m),.int .i64 a,.int .i64 n,.int .i64 E,.int .i64 N] w (FZ (.ok {RR.zero with raw:=(m.take (a+n)).drop a}) w):=by
 have hb:=Y (fun w=>uU E N w);rw[O]at hb;clear O;have hSl:(m.take (a+n)).length=a+n:=az;obtain⟨k1,k2,k3,k4,k5,hs0⟩:=GU (m:=m) (a:=a) n n J I;obtain⟨aeR,HW,C10,C12,CB,CS⟩:=zB w;replace CS:w.heap.size+2<=aeR.heap.size:=I;rw[<-HW.out]at C10 C12 CB CS;clear HW;go_enter func182,ntmps182;go_wp2_with(refine tO (.store 119 (.tmp 13) (.tmp 56)) J (ab J (w.heap.size+1) 0 vG C12 bi cD vW ?_));intro W B12 g1 _;replace B12:Z W (w.heap.size+1) 119 vG:=B12;have B10:=C10.grown g1 ap;have HB:=tN CB g1 I I;clear C10 C12 CB g1 CS;go_wp2_with fail;refine(hb.out W).mono ?_;rintro _ w1 ⟨rfl,rfl⟩;clear hb;have agu:vG.length=33:=jG;go_wp2_with(refine tO (.store 9 (.tmp 66) (.tmp 65)) J (af J (w.heap.size+1) 32 _ B12 I Kw ?_));intro w2 B2 g2 _;have A2:=B10.grown g2 ap;have hk:=tN HB g2 HB.size I;rw[List.take_take,Nat.min_self]at B2;clear B12 B10 HB g2;obtain⟨L,hL⟩:∃L,L=vG.set 32 (.string (bs ((m.take (a+n)).drop a))):=gp;rw[<-hL]at B2;replace hL:L=vy tS tS tS {RR.zero with raw:=(m.take (a+n)).drop a}:=hL;have ll:L.length=33:=Lb hL ⟨J,J⟩;have l1:Hid (∀v∈L,v.oneCell'=true):=Y bZ;have OW:Hid (∀w',ug w2 w'->wR w' L {RR.zero with raw:=(m.take (a+n)).drop a}):=jk;clear hL;go_wp2_with(first
  |(refine tO (.load 119 (.tmp 13)) rfl ?_;go_must(refine tP rfl _ _ rfl (w.heap.size+1) 0 rfl B2 33 I _ underlying119 rfl uu L (wg I) ?_))
  |(refine tO (.store 119 (.tmp 10) (.tmp 217)) rfl (ab rfl w.heap.size 0 L A2 bi cf l1.out ?_)))
 exact ox
def Ee(fam:Int)(d:List UInt8)(k:Nat):RR:={RR.zero with ad:=⟨fam,d.take k++List.replicate (16-k) 0,0⟩}
theorem AW(fam:Int)(d:List UInt8)(k:Nat)(O:k<=d.length)(h16:k<=16):(Ee fam d k).wf:=⟨by simp[Ee];omega,J⟩
theorem abZ(fam:Int)(d:List UInt8):Ee fam d d.length=Mr fam d:=by unfold Ee Mr;rw[List.take_length]
theorem XD(d:List UInt8)(k:Nat)(O:k<d.length)(h16:k<16):(d.take k++List.replicate (16-k) 0).set k d[k]=d.take (k+1)++List.replicate (16-(k+1)) 0:=by
 have hl:(d.take k).length=k:=az;rw[List.set_append_right _ _ I,hl,Nat.sub_self,show 16-k=(16-(k+1))+1 by omega,List.replicate_succ,List.set_cons_zero,List.take_succ_eq_append_getElem O,List.append_assoc];rfl
theorem VQ(fam:Int)(d:List UInt8)(k:Nat)(O:k<d.length)(h16:k<16):(vy tS tS tS (Ee fam d k)).set (5+k) (.int .u8 (d[k].toNat:Int))=vy tS tS tS (Ee fam d (k+1)):=by
 have e:(vl (d.take k++List.replicate (16-k) 0)).set k (.int .u8 (d[k].toNat:Int))=vl (d.take (k+1)++List.replicate (16-(k+1)) 0):=by rw[<-XD d k O h16];unfold vl;rw[List.map_set]
 have hl:k<(vl (d.take k++List.replicate (16-k) 0)).length:=by simp[vl];omega
 unfold vy Ee uV.cells;simp only;rw[Nat.add_comm 5 k];simp only[List.set_cons_succ,List.cons_append,List.append_assoc];rw[List.set_append_left _ _ hl,e]
theorem Ml:(prog.info? 24).map (·.size)=some 18:=by kernel_rfl
theorem ab0:(prog.info? 5).map (·.size)=some 1:=by kernel_rfl
theorem VR(k:Nat)(fam:Int)(hkf:(k=1/\fam=4)\/(k=28/\fam=6))(m:List UInt8)(a n:Nat)(E N:Int)(w:World)(hm:a+n<=m.length)(hl:m.length<=4000000)(O:uo E N=k)(hn:n=if k=1 then 4 else 16):
  Calls prog 182 #[.string (bs m),.int .i64 a,.int .i64 n,.int .i64 E,.int .i64 N] w (FZ (.ok (Mr fam ((m.take (a+n)).drop a))) w):=by
 have hb:=Y (fun w=>uU E N w);have hty:E=k:=SR O (by rcases hkf with⟨rfl,_⟩|⟨rfl,_⟩<;>decide);rw[O]at hb;clear O;subst hty;have agu:vG.length=33:=jG;have hSl:(m.take (a+n)).length=a+n:=az;have hdl:((m.take (a+n)).drop a).length=n:=az;have hRR:Mr fam ((m.take (a+n)).drop a)=Ee fam ((m.take (a+n)).drop a) n:=by rw[<-abZ,hdl]
 rw[hRR];clear hRR hdl;have BI:=Y (fun L U X w=>I8 fam L U X I w);rcases hkf with⟨rfl,rfl⟩|⟨rfl,rfl⟩
 case inl=>
  obtain rfl:n=4:=cG;clear hn;obtain⟨k1,k2,k3,k4,k5,hs0⟩:=GU (m:=m) (a:=a) 4 4 J I;obtain⟨aeR,HW,C10,C12,CB,CS⟩:=zB w;replace CS:w.heap.size+2<=aeR.heap.size:=I;rw[<-HW.out]at C10 C12 CB CS;clear HW;go_enter func182,ntmps182;go_wp2_with(refine tO (.store 119 (.tmp 13) (.tmp 56)) J (ab J (w.heap.size+1) 0 vG C12 bi cD vW ?_));intro W B12 g1 _;replace B12:Z W (w.heap.size+1) 119 vG:=B12;have B10:=C10.grown g1 ap;have HB:=tN CB g1 I I;clear C10 C12 CB g1 CS;go_wp2_with fail;refine(hb.out W).mono ?_;rintro _ w1 ⟨rfl,rfl⟩;clear hb;generalize m.take (a+4)=S at*;go_wp2_with(refine tO (.store 3 (.tmp 71) (.const (.int .i64 4))) J (af J (w.heap.size+1) 4 (.int .i64 4) B12 I uB ?_));intro w2 B2 g2 _;have A2:=B10.grown g2 ap;have hk:=tN HB g2 HB.size I;replace B2:Z w2 (w.heap.size+1) 119 (vy tS tS tS (Ee 4 (S.drop a) 0)):=B2;clear B12 B10 HB g2;have ll:=uP (vn:=tS) (vt:=tS) (vm:=tS) (AW 4 (S.drop a) 0 I I);have afE:=Cd (vn:=tS) (vt:=tS) (vm:=tS) (AW 4 (S.drop a) 0 I I);have hal:=(Ee 4 (S.drop a) 0).ad.ur fA;have BJ:=Y (BI.out (Ee 4 (S.drop a) 0).ad.cells hal (fun hi=>rfl));clear BI;obtain⟨LL,hLL⟩:∃LL,Hid (LL=vy tS tS tS (Ee 4 (S.drop a) 0)):=gG;rw[<-hLL.out]at ll afE B2;generalize(Ee 4 (S.drop a) 0).ad.cells=ac at*;go_wp2_with(refine tO (.load 24 (.tmp 77)) J ?_;go_must(refine tP J _ _ J (w.heap.size+1) 4 J B2 18 I _ underlying24 J Ml ac afE ?_));refine(BJ.out _).mono ?_;rintro _ w3 ⟨rfl,b3⟩;replace A2:=A2.G b3 A2.lt;replace B2:=B2.G b3 B2.lt;replace hk:=tL hk hk.size b3;rw[hLL.out]at B2;clear BJ b3 hLL ll afE hal;simp only[VP];go_wp2_with fail;go_loopw[16] (fun iv wr=>∃k:Nat,k<=4/\iv= .int .i64 k/\Z wr (w.heap.size+1) 119 (vy tS tS tS (Ee 4 (S.drop a) k))/\Z wr w.heap.size 119 vG/\al w wr) (fun iv _=>4-(intOf iv).toNat)
  case atStart=>exact⟨0,I,J,B2,A2,hk⟩
  clear B2 A2 hk;obtain⟨k,O,rfl,B2,A2,hk⟩:=hrel;by_cases Hh:k<4
  case pos=>
   have tQ:(k:Int)<4:=I;have hkd:k<(S.drop a).length:=az;have SL:=Y (VQ 4 (S.drop a) k hkd I);have hwf:=AW 4 (S.drop a) k I I;have ll:=uP (vn:=tS) (vt:=tS) (vm:=tS) hwf;obtain⟨c,hc⟩:∃c,c=(S.getD (a+k) 0).toNat:=gp;have hcd:(S.drop a)[k].toNat=c:=by rw[hc];simp[List.getD,List.getElem?_eq_getElem (show a+k<S.length by omega)]
   rw[hcd]at SL;have ak5:=fun w=>Oz S (a+k) c I hc w
   rw[show(((a+k:Nat)):Int)=(a:Int)+k by omega]at ak5;clear hcd hc hwf;generalize vy tS tS tS (Ee 4 (S.drop a) k)=LL at*;exact pz
  obtain rfl:k=4:=I;clear Hh O;have hwf:=AW 4 (S.drop a) 4 az I;obtain⟨r,hr⟩:∃r,r=Ee 4 (S.drop a) 4:=gp;rw[<-hr]at hwf B2;obtain⟨L,hL⟩:∃L,L=vy tS tS tS r:=gp;rw[<-hL]at B2;have ll:L.length=33:=jn;have l1:Hid (∀v∈L,v.oneCell'=true):=Y bZ;have OW:Hid (∀w',ug wr w'->wR w' L (Ee 4 (S.drop a) 4)):=ic;have tQ:¬((4:Nat):Int)<4:=I;clear hL hr hwf;go_wp2_with(first
   |(refine tO (.load 119 (.tmp 13)) rfl ?_;go_must(refine tP rfl _ _ rfl (w.heap.size+1) 0 rfl B2 33 I _ underlying119 rfl uu L (wg I) ?_))
   |(refine tO (.store 119 (.tmp 10) (.tmp 217)) rfl (ab rfl w.heap.size 0 L A2 bi cf l1.out ?_)))
  exact ox
 case inr=>
  obtain rfl:n=16:=cG;clear hn;obtain⟨k1,k2,k3,k4,k5,hs0⟩:=GU (m:=m) (a:=a) 16 16 J I;obtain⟨aeR,HW,C10,C12,CB,CS⟩:=zB w;replace CS:w.heap.size+2<=aeR.heap.size:=I;rw[<-HW.out]at C10 C12 CB CS;clear HW;go_enter func182,ntmps182;go_wp2_with(refine tO (.store 119 (.tmp 13) (.tmp 56)) J (ab J (w.heap.size+1) 0 vG C12 bi cD vW ?_));intro W B12 g1 _;replace B12:Z W (w.heap.size+1) 119 vG:=B12;have B10:=C10.grown g1 ap;have HB:=tN CB g1 I I;clear C10 C12 CB g1 CS;go_wp2_with fail;refine(hb.out W).mono ?_;rintro _ w1 ⟨rfl,rfl⟩;clear hb;generalize m.take (a+16)=S at*;go_wp2_with(refine tO (.store 3 (.tmp 71) (.const (.int .i64 4))) J (af J (w.heap.size+1) 4 (.int .i64 4) B12 I uB ?_));intro w1 B1 g1 _;have A1:=B10.grown g1 ap;have HB1:=tN HB g1 HB.size I;clear B12 B10 HB g1;go_wp2_with(refine tO (.store 3 (.tmp 75) (.const (.int .i64 6))) J (af J (w.heap.size+1) 4 (.int .i64 6) B1 fB uB ?_));intro w2 B2 g2 _;have A2:=A1.grown g2 ap;have hk:=tN HB1 g2 HB1.size I;replace B2:Z w2 (w.heap.size+1) 119 (vy tS tS tS (Ee 6 (S.drop a) 0)):=B2;clear B1 A1 HB1 g2;have ll:=uP (vn:=tS) (vt:=tS) (vm:=tS) (AW 6 (S.drop a) 0 I I);have afE:=Cd (vn:=tS) (vt:=tS) (vm:=tS) (AW 6 (S.drop a) 0 I I);have hal:=(Ee 6 (S.drop a) 0).ad.ur fA;have BJ:=Y (BI.out (Ee 6 (S.drop a) 0).ad.cells hal (fun hi=>rfl));clear BI;obtain⟨LL,hLL⟩:∃LL,Hid (LL=vy tS tS tS (Ee 6 (S.drop a) 0)):=gG;rw[<-hLL.out]at ll afE B2;generalize(Ee 6 (S.drop a) 0).ad.cells=ac at*;go_wp2_with(refine tO (.load 24 (.tmp 77)) J ?_;go_must(refine tP J _ _ J (w.heap.size+1) 4 J B2 18 I _ underlying24 J Ml ac afE ?_));refine(BJ.out _).mono ?_;rintro _ w3 ⟨rfl,b3⟩;replace A2:=A2.G b3 A2.lt;replace B2:=B2.G b3 B2.lt;replace hk:=tL hk hk.size b3;rw[hLL.out]at B2;clear BJ b3 hLL ll afE hal;simp only[VP];go_wp2_with fail;go_loopw[16] (fun iv wr=>∃k:Nat,k<=16/\iv= .int .i64 k/\Z wr (w.heap.size+1) 119 (vy tS tS tS (Ee 6 (S.drop a) k))/\Z wr w.heap.size 119 vG/\al w wr) (fun iv _=>16-(intOf iv).toNat)
  case atStart=>exact⟨0,I,J,B2,A2,hk⟩
  clear B2 A2 hk;obtain⟨k,O,rfl,B2,A2,hk⟩:=hrel;by_cases Hh:k<16
  case pos=>
   have tQ:(k:Int)<16:=I;have hkd:k<(S.drop a).length:=az;have SL:=Y (VQ 6 (S.drop a) k hkd I);have hwf:=AW 6 (S.drop a) k I I;have ll:=uP (vn:=tS) (vt:=tS) (vm:=tS) hwf;obtain⟨c,hc⟩:∃c,c=(S.getD (a+k) 0).toNat:=gp;have hcd:(S.drop a)[k].toNat=c:=by rw[hc];simp[List.getD,List.getElem?_eq_getElem (show a+k<S.length by omega)]
   rw[hcd]at SL;have ak5:=fun w=>Oz S (a+k) c I hc w
   rw[show(((a+k:Nat)):Int)=(a:Int)+k by omega]at ak5;clear hcd hc hwf;generalize vy tS tS tS (Ee 6 (S.drop a) k)=LL at*;exact pz
  obtain rfl:k=16:=I;clear Hh O;have hwf:=AW 6 (S.drop a) 16 az I;obtain⟨r,hr⟩:∃r,r=Ee 6 (S.drop a) 16:=gp;rw[<-hr]at hwf B2;obtain⟨L,hL⟩:∃L,L=vy tS tS tS r:=gp;rw[<-hL]at B2;have ll:L.length=33:=jn;have l1:Hid (∀v∈L,v.oneCell'=true):=Y bZ;have OW:Hid (∀w',ug wr w'->wR w' L (Ee 6 (S.drop a) 16)):=ic;have tQ:¬((16:Nat):Int)<16:=I;clear hL hr hwf;go_wp2_with(first
   |(refine tO (.load 119 (.tmp 13)) rfl ?_;go_must(refine tP rfl _ _ rfl (w.heap.size+1) 0 rfl B2 33 I _ underlying119 rfl uu L (wg I) ?_))
   |(refine tO (.store 119 (.tmp 10) (.tmp 217)) rfl (ab rfl w.heap.size 0 L A2 bi cf l1.out ?_)))
  exact ox
theorem Mm(k:Nat)(hkf:k=1\/k=28)(m:List UInt8)(a n:Nat)(E N:Int)(w:World)(hm:a+n<=m.length)(hl:m.length<=4000000)(O:uo E N=k)(hn:n≠if k=1 then 4 else 16):
  Calls prog 182 #[.string (bs m),.int .i64 a,.int .i64 n,.int .i64 E,.int .i64 N] w (FZ (.error 5) w):=by
 have hb:=Y (fun w=>uU E N w);have hty:E=k:=SR O (by rcases hkf with rfl|rfl<;>decide);rw[O]at hb;clear O;subst hty;have agu:vG.length=33:=jG;have hSl:(m.take (a+n)).length=a+n:=az;rcases hkf with rfl|rfl
 case inl=>have hne:((n:Int) !=4)=true:=n8;have BI:=Y (fun L U X w=>I8 4 L U X I w);clear hn;obtain⟨k1,k2,k3,k4,k5,hs0⟩:=GU (m:=m) (a:=a) n n J I;obtain⟨aeR,HW,C10,C12,CB,CS⟩:=zB w;replace CS:w.heap.size+2<=aeR.heap.size:=I;rw[<-HW.out]at C10 C12 CB CS;clear HW;go_enter func182,ntmps182;go_wp2_with(refine tO (.store 119 (.tmp 13) (.tmp 56)) J (ab J (w.heap.size+1) 0 vG C12 bi cD vW ?_));intro W B12 g1 _;replace B12:Z W (w.heap.size+1) 119 vG:=B12;have B10:=C10.grown g1 ap;have HB:=tN CB g1 I I;clear C10 C12 CB g1 CS;go_wp2_with fail;refine(hb.out W).mono ?_;rintro _ w1 ⟨rfl,rfl⟩;clear hb;generalize m.take (a+n)=S at*;go_wp2_with(refine tO (.store 3 (.tmp 71) (.const (.int .i64 4))) J (af J (w.heap.size+1) 4 (.int .i64 4) B12 I uB ?_));intro w2 B2 g2 _;have A2:=B10.grown g2 ap;have hk:=tN HB g2 HB.size I;replace B2:Z w2 (w.heap.size+1) 119 (vy tS tS tS (Ee 4 (S.drop a) 0)):=B2;clear B12 B10 HB g2;have ll:=uP (vn:=tS) (vt:=tS) (vm:=tS) (AW 4 (S.drop a) 0 I I);have afE:=Cd (vn:=tS) (vt:=tS) (vm:=tS) (AW 4 (S.drop a) 0 I I);have hal:=(Ee 4 (S.drop a) 0).ad.ur fA;have BJ:=Y (BI.out (Ee 4 (S.drop a) 0).ad.cells hal (fun hi=>rfl));clear BI;obtain⟨LL,hLL⟩:∃LL,Hid (LL=vy tS tS tS (Ee 4 (S.drop a) 0)):=gG;rw[<-hLL.out]at ll afE B2;generalize(Ee 4 (S.drop a) 0).ad.cells=ac at*;exact oP
 case inr=>have hne:((n:Int) !=16)=true:=n8;have BI:=Y (fun L U X w=>I8 6 L U X I w);clear hn;obtain⟨k1,k2,k3,k4,k5,hs0⟩:=GU (m:=m) (a:=a) n n J I;obtain⟨aeR,HW,C10,C12,CB,CS⟩:=zB w;replace CS:w.heap.size+2<=aeR.heap.size:=I;rw[<-HW.out]at C10 C12 CB CS;clear HW;go_enter func182,ntmps182;go_wp2_with(refine tO (.store 119 (.tmp 13) (.tmp 56)) J (ab J (w.heap.size+1) 0 vG C12 bi cD vW ?_));intro W B12 g1 _;replace B12:Z W (w.heap.size+1) 119 vG:=B12;have B10:=C10.grown g1 ap;have HB:=tN CB g1 I I;clear C10 C12 CB g1 CS;go_wp2_with fail;refine(hb.out W).mono ?_;rintro _ w1 ⟨rfl,rfl⟩;clear hb;generalize m.take (a+n)=S at*;go_wp2_with(refine tO (.store 3 (.tmp 71) (.const (.int .i64 4))) J (af J (w.heap.size+1) 4 (.int .i64 4) B12 I uB ?_));intro w1 B1 g1 _;have A1:=B10.grown g1 ap;have HB1:=tN HB g1 HB.size I;clear B12 B10 HB g1;go_wp2_with(refine tO (.store 3 (.tmp 75) (.const (.int .i64 6))) J (af J (w.heap.size+1) 4 (.int .i64 6) B1 fB uB ?_));intro w2 B2 g2 _;have A2:=A1.grown g2 ap;have hk:=tN HB1 g2 HB1.size I;replace B2:Z w2 (w.heap.size+1) 119 (vy tS tS tS (Ee 6 (S.drop a) 0)):=B2;clear B1 A1 HB1 g2;have ll:=uP (vn:=tS) (vt:=tS) (vm:=tS) (AW 6 (S.drop a) 0 I I);have afE:=Cd (vn:=tS) (vt:=tS) (vm:=tS) (AW 6 (S.drop a) 0 I I);have hal:=(Ee 6 (S.drop a) 0).ad.ur fA;have BJ:=Y (BI.out (Ee 6 (S.drop a) 0).ad.cells hal (fun hi=>rfl));clear BI;obtain⟨LL,hLL⟩:∃LL,Hid (LL=vy tS tS tS (Ee 6 (S.drop a) 0)):=gG;rw[<-hLL.out]at ll afE B2;generalize(Ee 6 (S.drop a) 0).ad.cells=ac at*;exact oP
end Go.Proofs.YthnbcmlnpdabhaaGreat
