/-
  Layer 21 (setup):Held,where a resolv alone is told.
-/
import Derived.Test.YtakkipnmpmobbaaGreatIBq
import Derived.Test.YtakkipnmpmobbaaGreatHXq
namespace Go.Proofs.YtakkipnmpmobbaaGreat
open _root_.Go.Proofs.Tryz
set_option maxHeartbeats 8000000
open Go.RowKit
set_option maxRecDepth 100000
set_option linter.unusedVariables false
set_option linter.unusedSimpArgs false
variable {w0 w w':World} {cs L:List Value} {g:Nat}
structure Rs where
 sv:List sg
 se:List (List (List UInt8))
 so:List (sg×Int)
 nd:Int
 tmo:Int
 rU:Int
 ro:Bool
 vc:Bool
 si:Bool
 ed:Bool
def zQ(v1 v2 v3:Value)(r:Rs):List Value:=[v1,v2,v3,.int .i64 r.nd,.int .i64 r.tmo,.int .i64 r.rU,.bool r.ro,.bool r.vc,.bool r.si,.bool r.ed]
def rT(r:Rs):Rs:={r with sv:=if sL zi r.sv 3=[]then[tX 127 0 0 1]else sL zi r.sv 3,se:=sL xu r.se 6,so:=sL Qw r.so 10,nd:=min (max r.nd 0) 15,tmo:=min (max r.tmo 1) 30,rU:=min (max r.rU 1) 5}
def yc(w:World)(cs:List Value)(r:Rs):Prop:=∃A1 c1 A2 c2 A3 c3,cs=zQ (.slice A1 r.sv.length c1) (.slice A2 r.se.length c2) (.slice A3 r.so.length c3) r/\Ua w A1 r.sv/\Cb w A2 r.se/\acy w A3 r.so/\r.sv.length<=17592186044416/\r.se.length<=17592186044416/\r.so.length<=17592186044416
def Jw(w0 w:World)(cs:List Value)(r:Rs):Prop:=∃v1 v2 v3,cs=zQ v1 v2 v3 r/\uG w 0 v1 r.sv/\Ub w0 w 0 v2 r.se/\acx w 0 v3 r.so
def VE(w0:World)(r:Rs)(w:World)(e:Ending)(w':World):Prop:=∃cs v1 v2 v3,e= .returned (.agg (cs++[v1,v2,v3]).toArray)/\Jw w0 w' cs (rT r)/\ao w w'
def acU(k:Int):List Value:=[.int .i64 k,.bool true,.bool false,.bool false,.bool false]
theorem Mu:(prog.info? 86).map (·.size)=some 5:=by kernel_rfl
theorem Uq(k:Int)(w:World):Calls prog 86 #[.int .i64 k] w (rW (.agg (acU k).toArray) w):=by
 go_enter func86,ntmps86;go_wp2_with fail;refine tx I w.heap.size I (L:=acU k) ((N.new w 86 (acU k)).alloc _) _ underlying86 I Mu I ?_;exact qA
theorem xv:(prog.info? 33).map (·.size)=some 13:=by kernel_rfl
theorem wE:(prog.info? 29).map (·.size)=some 10:=by kernel_rfl
theorem Jw.one{r:Rs}(h:Jw w0 w cs r):∀v∈cs,v.oneCell'=true:=by
 obtain⟨v1,v2,v3,rfl,U,F,h3⟩:=h;obtain⟨A1,c1,rfl⟩:=U.form;obtain⟨A2,c2,rfl⟩:=F.form;obtain⟨A3,c3,rfl⟩:=h3.form;intro v hv;simp only[zQ,List.mem_cons,List.not_mem_nil,or_false]at hv;rcases hv with rfl|rfl|rfl|rfl|rfl|rfl|rfl|rfl|rfl|rfl<;>rfl
def Bk(w0 w:World)(cs:List Value)(r:Rs):Prop:=∃A1 c1 A2 c2 A3 c3,cs=zQ (.slice A1 r.sv.length c1) (.slice A2 r.se.length c2) (.slice A3 r.so.length c3) r/\Ua w A1 r.sv/\wH w 1 (Ii w0) A2 r.se/\acy w A3 r.so/\r.sv.length<=17592186044416/\r.se.length<=17592186044416/\r.so.length<=17592186044416
theorem Bk.len{r:Rs}(h:Bk w0 w cs r):cs.length=10:=by obtain⟨_,_,_,_,_,_,rfl,_⟩:=h;rfl
theorem Bk.G{r:Rs}(h:Bk w0 w cs r)(Z:ao w w'):Bk w0 w' cs r:=by
 obtain⟨A1,c1,A2,c2,A3,c3,h0,U,F,h3,l⟩:=h;exact⟨A1,c1,A2,c2,A3,c3,h0,U.mono Z (fun _ _ h=>h),F.mono Z (fun _ _ h=>h),h3.mono Z (fun _ _ h=>h),l⟩
theorem yc.XA{r:Rs}(h:yc w0 cs r)(hw:ao w0 w):Bk w0 w cs r:=by
 obtain⟨A1,c1,A2,c2,A3,c3,h0,U,F,h3,l⟩:=h;exact⟨A1,c1,A2,c2,A3,c3,h0,U.mono hw (fun _ _ h=>h),F.Ma hw,h3.mono hw (fun _ _ h=>h),l⟩
theorem Jw.XA{r:Rs}(h:Jw w0 w cs r)(l1:r.sv.length<=17592186044416)(l2:r.se.length<=17592186044416)(l3:r.so.length<=17592186044416):Bk w0 w cs r:=by
 obtain⟨v1,v2,v3,h0,U,F,h3⟩:=h;obtain⟨A1,c1,rfl⟩:=U.form;obtain⟨A2,c2,rfl⟩:=F.form;obtain⟨A3,c3,rfl⟩:=h3.form;exact⟨A1,c1,A2,c2,A3,c3,h0,U.Ma (fun _ _ h=>h.len),F.Ma (fun _ _ ⟨_,_,h,_⟩=>by rw[h];rfl),h3.Ma (fun _ _ h=>by rw[h.1];exact Df h.2),l1,l2,l3⟩
structure Src where
 kd:Int
 a:Bool
 b:Bool
 c:Bool
 d:Bool
def Jx(s:Src):List Value:=[.int .i64 s.kd,.bool s.a,.bool s.b,.bool s.c,.bool s.d]
def aaI:List Value:=[.int .i64 0,.bool false,.bool false,.bool false,.bool false]
theorem QZ(s:Src):∀v∈Jx s,v.oneCell'=true:=by
 intro v hv;simp only[Jx,List.mem_cons,List.not_mem_nil,or_false]at hv;rcases hv with rfl|rfl|rfl|rfl|rfl<;>rfl
theorem CI:(prog.info? 86).map (fun i=>(i.zero,i.size,i.bytes))=some (some (.agg aaI.toArray),5,16):=by kernel_rfl
def uK(cs:List Value)(s:Src):Prop:=cs=Jx s
def vH(s:Src):Bool:=s.kd==1||s.kd==2||s.kd==3
theorem KL(s:Src)(w:World):Calls prog 61 #[.agg (Jx s).toArray] w (rW (.bool (vH s)) w):=by
 unfold Jx;obtain⟨R,hR⟩:=aq (vH s);rw[hR.out];go_enter func61,ntmps61;go_wp2_with fail;all_goals(go_ret;exact rW.mk (by have:=hR.out;unfold vH at this;simp_all) ((Below.refl _ _).alloc (Nat.le_refl _) _))
theorem XD(A:Option Addr)(c:Nat)(l:List Src)(m:Nat)(w:World)(hA:wH w 5 uK A l)(E:l.length<=17592186044416)(hm:m<=100):
  Calls prog 60 #[.slice A l.length c,.int .i64 m,.func (.func 61) #[] #[]] w (wC 86 5 (fun _=>uK) (sL vH l m) w):=by
 have amn:aaI.length=5:=rfl;obtain⟨p,hp⟩:∃p,p=vH:=gh;have MS:=J (fun a W=>KL a W);rw[<-hp]at MS⊢;clear hp;go_enter func60,ntmps60;go_wp2_with fail;go_loopw[7,12] (fun kv iv wr=>∃k:Nat,k<=l.length/\iv= .int .i64 k/\rJ wr w.heap.size 86 5 uK kv ((l.take k).filter p)/\((l.take k).filter p).length<=m/\ao w wr) (fun _ iv _=>l.length-(intOf iv).toNat)
 case atStart=>exact⟨0,Nat.zero_le _,I,rJ.nil _ _ _ _ _,ar,Below.refl _ _⟩
 obtain⟨k,O,rfl,ho,hle,hB⟩:=hrel;obtain⟨Ak,ck,hv⟩:=ho.form;subst hv;by_cases aA:k<l.length
 case neg=>exact mG
 have h1:(k:Int)<l.length:=Y;obtain⟨b,off,rfl,Z,hr⟩:=hA Y;obtain⟨cs,hcs,hce⟩:=hr k aA;have hcs:=rN hcs hB Z;have hcl:cs.length=5:=by rw[hce];exact I
 have w1:∀v∈cs,v.oneCell'=true:=by rw[hce];exact QZ _
 have MK:Hid (∀W,Calls prog 61 #[.agg cs.toArray] W (rW (.bool (p l[k])) W)):=J (fun W=>by rw[hce];exact MS.out _ W);have HC:=J hce;have HO:=J ho;clear hce hr ho hA;have W1:Below wr.heap.size wr (wr.alloc (.cells aaI.toArray 86)):=fZ;by_cases aj8:((l.take k).filter p).length<m
 case neg=>
  have ag2:¬(((l.take k).filter p).length:Int)<m:=Y;go_wp2_with(first
   |(refine rF (.load 86 (.tmp 14)) rfl ?_;go_must(refine sr rfl 86 (.tmp 14) rfl b (off+k*5) rfl cs hcs _ underlying86 rfl cZ ?_))
   |(refine rF (.store 86 (.tmp 9) (.tmp 15)) rfl (ab rfl wr.heap.size 0 cs (N.new wr 86 aaI) bQ cZ w1 ?_)))
  intro B B1 g1 _;have H1:=rE (rC hB hB.size W1) g1 aS hB.size;have K1:=rE W1 g1 W1.size (Nat.le_refl _);clear g1 B1 W1;go_wp2_with fail;go_ret;refine⟨_,I,?_,H1⟩;have e:((l.take k).filter p).length=m:=Y;rw[xz e];exact rJ.G (R':=uK) HO.out K1 (fun _ _ h=>h)
 have ag2:(((l.take k).filter p).length:Int)<m:=Y;go_wp2_with(first
  |(refine rF (.load 86 (.tmp 14)) rfl ?_;go_must(refine sr rfl 86 (.tmp 14) rfl b (off+k*5) rfl cs hcs _ underlying86 rfl cZ ?_))
  |(refine rF (.store 86 (.tmp 9) (.tmp 15)) rfl (ab rfl wr.heap.size 0 cs (N.new wr 86 aaI) bQ cZ w1 ?_)))
 intro B B1 g1 _;have B1':=tH B1 Y;have H1:=rE (rC hB hB.size W1) g1 aS hB.size;clear B1;go_wp2_with(refine rF (.load 86 (.tmp 9)) I ?_;go_must(refine rG I _ _ I wr.heap.size 0 I B1' 5 Y _ underlying86 I Mu cs (uH Y) ?_));refine(MK.out _).mono ?_;rintro _ w2 ⟨rfl,b2⟩;have B2:=B1'.G b2 B1'.lt;have H2:=rC H1 H1.size b2;have K2:=rC (rE W1 g1 W1.size (Nat.le_refl _)) bS b2;have O2:=rJ.G (R':=uK) HO.out K2 (fun _ _ h=>h);have FS:=J (ux (p:=p) aA);have hlen:((l.take k).filter p).length+1<=200:=Y;clear MS MK hcs W1 g1 b2 B1' HO H1;cases hpk:p l[k]with
 |false=>exact mP
 |true=>
  rw[hpk]at FS;have HP:=J hpk;have K3:Below w2.heap.size w2 (w2.alloc (.cells cs.toArray 86)):=fZ;have O3:=rJ.G (R':=uK) O2 K3 (fun _ _ h=>h);have N3:=O2.ne (Nat.le_refl _);clear hpk;go_wp2_with(first
   |(refine rF (.load 86 (.tmp 9)) rfl ?_;go_must(refine rG rfl _ _ rfl wr.heap.size 0 rfl B2 5 Y _ underlying86 rfl Mu cs (uH Y) ?_))
   |(refine rF (.buildSlice 30 1 #[(0,.tmp 24)]) rfl ?_;go_must(refine uT rfl 30 86 _ 5 16 underlying30 CI K K (.tmp 24) rfl cs rfl hcl ?_))
   |(at_builtin;go_must(refine sJ _ rfl _ _ 30 rfl 86 _ 5 16 underlying30 CI (by kernel_rfl) K w.heap.size _ _ rfl O3 bU w2.heap.size cs l[k] rfl (N.new _ _ _) N3 hcl w1 HC.out aL Y ?_)))
  exact mH
structure He where
 n:Nat
 po:Int
 pr:Int
def Q6:List Value:=[rI,.int .i64 0,.int .i64 0]
def wG(cs:List Value)(s:He):Prop:=∃A c,cs=[.slice A s.n c,.int .i64 s.po,.int .i64 s.pr]
theorem wG.len{s:He}(h:wG cs s):cs.length=3:=by obtain⟨A,c,rfl⟩:=h;rfl
theorem wG.one{s:He}(h:wG cs s):∀v∈cs,v.oneCell'=true:=by
 obtain⟨A,c,rfl⟩:=h;intro v hv;exact pP
theorem AG:(prog.info? 77).map (fun i=>(i.zero,i.size,i.bytes))=some (some (.agg Q6.toArray),3,40):=by kernel_rfl
theorem Mv:(prog.info? 77).map (·.size)=some 3:=by kernel_rfl
def Jy(s:He):Bool:=decide ((1:Int)<=s.n)&&(decide (0<=s.po)&&(decide (s.po<=65535)&&(s.pr==6||s.pr==17)))
theorem Jz(cs:List Value)(s:He)(h:wG cs s)(w:World):Calls prog 65 #[.agg cs.toArray] w (rW (.bool (Jy s)) w):=by
 obtain⟨A,c,rfl⟩:=h;obtain⟨R,hR⟩:=aq (Jy s);rw[hR.out];go_enter func65,ntmps65;go_wp2_with fail;all_goals(go_ret;exact rW.mk (by rw[<-hR.out];unfold Jy;first|rfl|(congr 2;simp_all;done)|(congr 2;simp_all;omega)) ((Below.refl _ _).alloc (Nat.le_refl _) _))
theorem XE(A:Option Addr)(c:Nat)(l:List He)(m:Nat)(w:World)(hA:wH w 3 wG A l)(E:l.length<=17592186044416)(hm:m<=1000):
  Calls prog 64 #[.slice A l.length c,.int .i64 m,.func (.func 65) #[] #[]] w (wC 77 3 (fun _=>wG) (sL Jy l m) w):=by
 have amn:Q6.length=3:=rfl;obtain⟨p,hp⟩:∃p,p=Jy:=gh;have MS:=J (fun cs a h W=>Jz cs a h W);rw[<-hp]at MS⊢;clear hp;go_enter func64,ntmps64;go_wp2_with fail;go_loopw[7,12] (fun kv iv wr=>∃k:Nat,k<=l.length/\iv= .int .i64 k/\rJ wr w.heap.size 77 3 wG kv ((l.take k).filter p)/\((l.take k).filter p).length<=m/\ao w wr) (fun _ iv _=>l.length-(intOf iv).toNat)
 case atStart=>exact⟨0,Nat.zero_le _,I,rJ.nil _ _ _ _ _,ar,Below.refl _ _⟩
 obtain⟨k,O,rfl,ho,hle,hB⟩:=hrel;obtain⟨Ak,ck,hv⟩:=ho.form;subst hv;by_cases aA:k<l.length
 case neg=>exact mG
 have h1:(k:Int)<l.length:=Y;obtain⟨b,off,rfl,Z,hr⟩:=hA Y;obtain⟨cs,hcs,hce⟩:=hr k aA;have hcs:=rN hcs hB Z;have hcl:cs.length=3:=wG.len hce;have w1:∀v∈cs,v.oneCell'=true:=wG.one hce;have MK:Hid (∀W,Calls prog 65 #[.agg cs.toArray] W (rW (.bool (p l[k])) W)):=J (fun W=>MS.out _ _ hce W);have HC:=J hce;have HO:=J ho;clear hce hr ho hA;have W1:Below wr.heap.size wr (wr.alloc (.cells Q6.toArray 77)):=fZ;by_cases aj8:((l.take k).filter p).length<m
 case neg=>
  have ag2:¬(((l.take k).filter p).length:Int)<m:=Y;go_wp2_with(first
   |(refine rF (.load 77 (.tmp 14)) rfl ?_;go_must(refine sr rfl 77 (.tmp 14) rfl b (off+k*3) rfl cs hcs _ underlying77 rfl da ?_))
   |(refine rF (.store 77 (.tmp 9) (.tmp 15)) rfl (ab rfl wr.heap.size 0 cs (N.new wr 77 Q6) bQ da w1 ?_)))
  intro B B1 g1 _;have H1:=rE (rC hB hB.size W1) g1 aS hB.size;have K1:=rE W1 g1 W1.size (Nat.le_refl _);clear g1 B1 W1;go_wp2_with fail;go_ret;refine⟨_,I,?_,H1⟩;have e:((l.take k).filter p).length=m:=Y;rw[xz e];exact rJ.G (R':=wG) HO.out K1 (fun _ _ h=>h)
 have ag2:(((l.take k).filter p).length:Int)<m:=Y;go_wp2_with(first
  |(refine rF (.load 77 (.tmp 14)) rfl ?_;go_must(refine sr rfl 77 (.tmp 14) rfl b (off+k*3) rfl cs hcs _ underlying77 rfl da ?_))
  |(refine rF (.store 77 (.tmp 9) (.tmp 15)) rfl (ab rfl wr.heap.size 0 cs (N.new wr 77 Q6) bQ da w1 ?_)))
 intro B B1 g1 _;have B1':=tH B1 Y;have H1:=rE (rC hB hB.size W1) g1 aS hB.size;clear B1;go_wp2_with(refine rF (.load 77 (.tmp 9)) I ?_;go_must(refine rG I _ _ I wr.heap.size 0 I B1' 3 Y _ underlying77 I Mv cs (uH Y) ?_));refine(MK.out _).mono ?_;rintro _ w2 ⟨rfl,b2⟩;have B2:=B1'.G b2 B1'.lt;have H2:=rC H1 H1.size b2;have K2:=rC (rE W1 g1 W1.size (Nat.le_refl _)) bS b2;have O2:=rJ.G (R':=wG) HO.out K2 (fun _ _ h=>h);have FS:=J (ux (p:=p) aA);have hlen:((l.take k).filter p).length+1<=2000:=Y;clear MS MK hcs W1 g1 b2 B1' HO H1;cases hpk:p l[k]with
 |false=>exact mP
 |true=>
  rw[hpk]at FS;have HP:=J hpk;have K3:Below w2.heap.size w2 (w2.alloc (.cells cs.toArray 77)):=fZ;have O3:=rJ.G (R':=wG) O2 K3 (fun _ _ h=>h);have N3:=O2.ne (Nat.le_refl _);clear hpk;go_wp2_with(first
   |(refine rF (.load 77 (.tmp 9)) rfl ?_;go_must(refine rG rfl _ _ rfl wr.heap.size 0 rfl B2 3 Y _ underlying77 rfl Mv cs (uH Y) ?_))
   |(refine rF (.buildSlice 31 1 #[(0,.tmp 24)]) rfl ?_;go_must(refine uT rfl 31 77 _ 3 40 underlying31 AG K K (.tmp 24) rfl cs rfl hcl ?_))
   |(at_builtin;go_must(refine sJ _ rfl _ _ 31 rfl 77 _ 3 40 underlying31 AG (by kernel_rfl) K w.heap.size _ _ rfl O3 bU w2.heap.size cs l[k] rfl (N.new _ _ _) N3 hcl w1 HC.out aL Y ?_)))
  exact mH
theorem aaJ(w0:World)(A:Option Addr)(c:Nat)(l:List (List (List UInt8)))(m:Nat)(w:World)(hA:wH w 1 (Ii w0) A l)(hw:ao w0 w)(hlm:l.length<=m)(E:l.length<=17592186044416)(ok:∀n∈l,xu n=true):
  Calls prog 100 #[.slice A l.length c,.int .i64 m,.func (.func 56) #[] #[]] w (uQ (.bool true) w):=by
 have aLq:¬(m:Int)<l.length:=Y;have MS:=J (fun A c n W U F=>GV A c n W U F);have OK:=J ok;clear ok;go_enter func100,ntmps100;go_wp2_with fail;go_loopw[15] (fun iv wr=>∃k:Nat,k<=l.length/\iv= .int .i64 k/\wr=w) (fun iv _=>l.length-(intOf iv).toNat)
 case atStart=>exact⟨0,Nat.zero_le _,I,I⟩
 obtain⟨k,O,rfl,rfl⟩:=hrel;by_cases aA:k<l.length
 case neg=>have h1:¬(k:Int)<l.length:=Y;exact mV
 have h1:(k:Int)<l.length:=Y;obtain⟨b,off,rfl,Z,hr⟩:=hA Y;obtain⟨cs,hcs,An,cn,rfl,hnm⟩:=hr k aA;have ce:=hcs 0 _ I;simp only[Nat.mul_one,Nat.add_zero]at ce;have hln:=hnm.2.2.1;have MK:=J (MS.out An cn l[k] Y wr (hnm.G hw).1);rw[OK.out _ (List.getElem_mem aA)]at MK;clear hr hA MS hnm hw hcs;generalize l[k].length=nl at*;go_wp2_with fail;refine MK.out.mono ?_;rintro _ w2 ⟨rfl,rfl⟩;clear MK;exact ox
theorem yN:(prog.info? 74).map (·.size)=some 19:=by kernel_rfl
theorem agM:(prog.info? 26).map (·.size)=some 1:=by kernel_rfl
theorem Ra(w0:World)(ad:sg)(v:Value)(ns:List (List (List UInt8)))(w:World)(rB:ad.ip.length=16)(hO:Ub w0 w 0 v ns)(hw:ao w0 w)(hn:ns.length<=17592186044416)(ok:∀n∈ns,xu n=true):
  Calls prog 88 #[.agg (ad.cells++[v]).toArray] w (rW (.bool (zi ad&&decide (1<=ns.length))) w):=by
 obtain⟨A,c,rfl⟩:=hO.form;have hLI:wH w 1 (Ii w0) A ns:=hO.Ma (fun cs x h=>by obtain⟨_,_,rfl,_⟩:=h;rfl);have hcl:=ad.rY rB;have AC:=J (fun W=>yt ad rB W);have HK:=J (show zi ad=(ad.check==0)from I);rw[HK.out];obtain⟨L,hL⟩:∃L,ad.cells++[.slice A ns.length c]=L:=gh;have hLl:L.length=19:=by rw[<-hL];simp[hcl]
 have L0:(L.drop 0).take 18=ad.cells:=by rw[<-hL,List.drop_zero];exact List.take_left' hcl
 have L18:L[18]?=some (.slice A ns.length c):=by rw[<-hL,List.getElem?_append_right Y,hcl];rfl
 rw[hL];clear hL HK;generalize ad.cells=La,ad.check=ck at*;have B0:=N.new w 74 L;have HB:Below w.heap.size w (w.alloc (.cells L.toArray 74)):=fZ;go_enter func88,ntmps88;go_wp2_with(refine rF (.load 67 (.tmp 3)) I ?_;go_must(refine rG I _ _ I w.heap.size 0 I B0 18 Y _ underlying67 I uq La L0 ?_));refine(AC.out _).mono ?_;rintro _ B ⟨rfl,b1⟩;have B1:=B0.G b1 B0.lt;have H1:=rC HB HB.size b1;have c18:=B1.rD 18 L18;have avQ:=hLI.mono (R':=Ii w0) H1 (fun _ _ h=>h);have hw1:=rC hw hw.size H1;have AL:=J (aaJ w0 A c ns ns.length B avQ hw1 (Nat.le_refl _) hn ok);clear AC hLI avQ hO ok hw hw1 B0 b1 HB;by_cases hc:ck=0
 case neg=>have e:(ck==0)=false:=iI;rw[e];exact qu
 have e:(ck==0)=true:=iI;rw[e];by_cases U:1<=ns.length
 case neg=>have h1':¬(1:Int)<=ns.length:=Y;rw[decide_eq_false U];exact qu
 have h1':(1:Int)<=ns.length:=Y;rw[decide_eq_true U];go_wp2_with fail;refine AL.out.mono ?_;rintro _ w2 ⟨rfl,rfl⟩;exact qu
structure xC where
 ad:sg
 ns:List (List (List UInt8))
def zR:List Value:=sg.zero.cells++[rI]
def sG(w0 w:World)(cs:List Value)(h:xC):Prop:=∃v,cs=h.ad.cells++[v]/\h.ad.ip.length=16/\Ub w0 w 0 v h.ns
theorem sG.len{h:xC}(x:sG w0 w cs h):cs.length=19:=by
 obtain⟨v,rfl,U,_⟩:=x;simp[h.ad.rY U]
theorem sG.one{h:xC}(x:sG w0 w cs h):∀v∈cs,v.oneCell'=true:=by
 obtain⟨v,rfl,U,F⟩:=x;obtain⟨A,c,rfl⟩:=F.form;exact pE
theorem sG.G{h:xC}(x:sG w0 w cs h)(Z:ao w w'):sG w0 w' cs h:=by
 obtain⟨v,h0,U,F⟩:=x;exact⟨v,h0,U,rJ.G (R':=Ii w0) F Z (fun _ _ h=>h)⟩
theorem yD:(prog.info? 74).map (fun i=>(i.zero,i.size,i.bytes))=some (some (.agg zR.toArray),19,56):=by kernel_rfl
def yE(h:xC):Bool:=zi h.ad&&decide (1<=h.ns.length)
theorem acV(w0:World)(cs:List Value)(h:xC)(w W:World)(x:sG w0 w cs h)(hw0:ao w0 w)(Z:ao w W)(U:h.ns.length<=17592186044416)(F:∀n∈h.ns,xu n=true):
  Calls prog 88 #[.agg cs.toArray] W (rW (.bool (yE h)) W):=by
 obtain⟨v,rfl,rB,hO⟩:=x.G Z;exact Ra w0 h.ad v h.ns W rB hO (rC hw0 hw0.size Z) U F
theorem XF(w0:World)(A:Option Addr)(c:Nat)(l:List xC)(m:Nat)(w:World)(hA:wH w 19 (sG w0 w) A l)(hw0:ao w0 w)(hok:∀h∈l,h.ns.length<=17592186044416/\∀n∈h.ns,xu n=true)(E:l.length<=17592186044416)(hm:m<=100):
  Calls prog 87 #[.slice A l.length c,.int .i64 m,.func (.func 88) #[] #[]] w (wC 74 19 (fun _=>sG w0 w) (sL yE l m) w):=by
 have amn:zR.length=19:=rfl;obtain⟨p,hp⟩:∃p,p=yE:=gh;have MS:=J (fun cs h W (hc:sG w0 w cs h) (Z:ao w W) U F=>acV w0 cs h w W hc hw0 Z U F);rw[<-hp]at MS⊢;clear hp;go_enter func87,ntmps87;go_wp2_with fail;go_loopw[7,12] (fun kv iv wr=>∃k:Nat,k<=l.length/\iv= .int .i64 k/\rJ wr w.heap.size 74 19 (sG w0 w) kv ((l.take k).filter p)/\((l.take k).filter p).length<=m/\ao w wr) (fun _ iv _=>l.length-(intOf iv).toNat)
 case atStart=>exact⟨0,Nat.zero_le _,I,rJ.nil _ _ _ _ _,ar,Below.refl _ _⟩
 obtain⟨k,O,rfl,ho,hle,hB⟩:=hrel;obtain⟨Ak,ck,hv⟩:=ho.form;subst hv;by_cases aA:k<l.length
 case neg=>exact mG
 have h1:(k:Int)<l.length:=Y;obtain⟨b,off,rfl,Z,hr⟩:=hA Y;obtain⟨cs,hcs,hce⟩:=hr k aA;have hcs:=rN hcs hB Z;have hcl:cs.length=19:=hce.len;have w1:∀v∈cs,v.oneCell'=true:=hce.one;have MK:Hid (∀W,ao w W->Calls prog 88 #[.agg cs.toArray] W (rW (.bool (p l[k])) W)):=J (fun W Z=>MS.out _ _ W hce Z (hok _ (List.getElem_mem aA)).1 (hok _ (List.getElem_mem aA)).2);have HC:=J hce;have HO:=J ho;clear hce hr ho hA hok;have W1:Below wr.heap.size wr (wr.alloc (.cells zR.toArray 74)):=fZ;by_cases aj8:((l.take k).filter p).length<m
 case neg=>
  have ag2:¬(((l.take k).filter p).length:Int)<m:=Y;go_wp2_with(first
   |(refine rF (.load 74 (.tmp 14)) rfl ?_;go_must(refine sr rfl 74 (.tmp 14) rfl b (off+k*19) rfl cs hcs _ underlying74 rfl dc ?_))
   |(refine rF (.store 74 (.tmp 9) (.tmp 15)) rfl (ab rfl wr.heap.size 0 cs (N.new wr 74 zR) bQ dc w1 ?_)))
  intro B B1 g1 _;have H1:=rE (rC hB hB.size W1) g1 aS hB.size;have K1:=rE W1 g1 W1.size (Nat.le_refl _);clear g1 B1 W1;go_wp2_with fail;go_ret;refine⟨_,I,?_,H1⟩;have e:((l.take k).filter p).length=m:=Y;rw[xz e];exact rJ.G (R':=sG w0 w) HO.out K1 (fun _ _ h=>h)
 have ag2:(((l.take k).filter p).length:Int)<m:=Y;go_wp2_with(first
  |(refine rF (.load 74 (.tmp 14)) rfl ?_;go_must(refine sr rfl 74 (.tmp 14) rfl b (off+k*19) rfl cs hcs _ underlying74 rfl dc ?_))
  |(refine rF (.store 74 (.tmp 9) (.tmp 15)) rfl (ab rfl wr.heap.size 0 cs (N.new wr 74 zR) bQ dc w1 ?_)))
 intro B B1 g1 _;have B1':=tH B1 Y;have H1:=rE (rC hB hB.size W1) g1 aS hB.size;clear B1;go_wp2_with(refine rF (.load 74 (.tmp 9)) I ?_;go_must(refine rG I _ _ I wr.heap.size 0 I B1' 19 Y _ underlying74 I yN cs (uH Y) ?_));refine(MK.out _ H1).mono ?_;rintro _ w2 ⟨rfl,b2⟩;have B2:=B1'.G b2 B1'.lt;have H2:=rC H1 H1.size b2;have K2:=rC (rE W1 g1 W1.size (Nat.le_refl _)) bS b2;have O2:=rJ.G (R':=sG w0 w) HO.out K2 (fun _ _ h=>h);have FS:=J (ux (p:=p) aA);have hlen:((l.take k).filter p).length+1<=200:=Y;clear MS MK hcs W1 g1 b2 B1' HO H1;cases hpk:p l[k]with
 |false=>exact mP
 |true=>
  rw[hpk]at FS;have HP:=J hpk;have K3:Below w2.heap.size w2 (w2.alloc (.cells cs.toArray 74)):=fZ;have O3:=rJ.G (R':=sG w0 w) O2 K3 (fun _ _ h=>h);have N3:=O2.ne (Nat.le_refl _);clear hpk;go_wp2_with(first
   |(refine rF (.load 74 (.tmp 9)) rfl ?_;go_must(refine rG rfl _ _ rfl wr.heap.size 0 rfl B2 19 Y _ underlying74 rfl yN cs (uH Y) ?_))
   |(refine rF (.buildSlice 22 1 #[(0,.tmp 24)]) rfl ?_;go_must(refine uT rfl 22 74 _ 19 56 underlying22 yD K K (.tmp 24) rfl cs rfl hcl ?_))
   |(at_builtin;go_must(refine sJ _ rfl _ _ 22 rfl 74 _ 19 56 underlying22 yD (by kernel_rfl) K w.heap.size _ _ rfl O3 bU w2.heap.size cs l[k] rfl (N.new _ _ _) N3 hcl w1 HC.out aL Y ?_)))
  exact mH
def yY(w:World)(cs:List Value)(h:xC):Prop:=∃A c,cs=h.ad.cells++[.slice A h.ns.length c]/\h.ad.ip.length=16/\Cb w A h.ns
theorem yY.len{h:xC}(x:yY w cs h):cs.length=19:=by
 obtain⟨A,c,rfl,U,_⟩:=x;simp[h.ad.rY U]
theorem yY.one{h:xC}(x:yY w cs h):∀v∈cs,v.oneCell'=true:=by
 obtain⟨A,c,rfl,U,F⟩:=x;exact pE
def wh(h:xC):xC:=⟨h.ad,sL xu h.ns h.ns.length⟩
def tI(l:List xC):List xC:=sL yE (l.map wh) (l.map wh).length
theorem aaK(a b c d e f g h i j k l m n o p q r:Value)(A:Option Addr)(x y:Nat)(W:World):(Instr.build 74 #[(0,.agg [a,b,c,d,e,f,g,h,i,j,k,l,m,n,o,p,q,r].toArray),(1,.slice A x y)]).run prog W= .ok (.agg ([a,b,c,d,e,f,g,h,i,j,k,l,m,n,o,p,q,r]++[Value.slice A x y]).toArray) W:=by kernel_rfl
theorem Oj(L:List Value)(hL:L.length=18)(A:Option Addr)(x y:Nat)(W:World):(Instr.build 74 #[(0,.agg L.toArray),(1,.slice A x y)]).run prog W= .ok (.agg (L++[Value.slice A x y]).toArray) W:=by
 match L,hL with
 |[a,b,c,d,e,f,g,h,i,j,k,l,m,n,o,p,q,r],_=>exact aaK ..
theorem aaL(n:Nat)(hn:n<=100):∃ahX:List Value,ahX.length=n*19/\∀W:World,(Instr.makeSlice 22 (.int .i64 (n:Int)) (.int .i64 (n:Int))).run prog W= .ok (.slice (some ⟨W.heap.size,0,none⟩) n n) (W.alloc (.cells ahX.toArray 74)):=by
 obtain⟨i,hi,hz,adR,hby⟩:=info_parts yD;refine⟨(madeCells (Value.agg zR.toArray).cells (n*i.size)).toList,?_,fun W=>?_⟩
 ·rw[adR];have h19:zR.length=19:=rfl;simp[madeCells]
 ·have h:=run_make (P:=prog) (w:=W) 22 74 i _ underlying22 hi hz .i64 .i64 (n:Int) (n:Int) Y Y (by rw[hby];omega) Y;rw[Array.toArray_toList];simpa using h
theorem Mw{α:Type}(p:α->Bool)(l:List α):sL p l l.length=l.filter p:=EM (List.length_filter_le _ _)
theorem acW(h:xC)(E:h.ns.length<=100):(wh h).ns.length<=17592186044416/\∀n∈(wh h).ns,xu n=true:=by
 unfold wh;simp only[Mw];refine⟨Nat.le_trans (List.length_filter_le _ _) Y,fun n hn=>?_⟩;exact(List.mem_filter.1 hn).2
def Rb(w0:World)(l:List xC)(w:World)(e:Ending)(w':World):Prop:=∃v,e= .returned v/\rJ w' 0 74 19 (sG w0 w') v (tI l)/\ao w w'
theorem acX{ahk sub ahX:List Value}{k:Nat}(hF:ahk.length=k)(hZ:sub.length<=ahX.length):(ahk++ahX).take k++sub++(ahk++ahX).drop (k+sub.length)=(ahk++sub)++ahX.drop sub.length:=by
 rw[List.take_left' hF,<-hF,List.drop_append,List.drop_of_length_le Y,List.nil_append,Nat.add_sub_cancel_left]
theorem zp{α:Type}{R:List Value->α->Prop}{k:Nat}(O:∀cs x,R cs x->cs.length=k):∀{css:List (List Value)} {l:List α},wO R css l->css.flatten.length=l.length*k
 |[],[],_=>by simp
 |cs::css,x::l,h=>by
  have:=zp O (css:=css) (l:=l) h.2;simp only[List.flatten_cons,List.length_append,List.length_cons,O _ _ h.1,this];rw[Nat.add_mul,Nat.one_mul,Nat.add_comm]
theorem sG.sD{h:xC}(x:sG w0 w cs h)(hg:w.grownBy w' (some g))(Z:N w g 74 L):sG w0 w' cs h:=by
 obtain⟨v,h0,U,F⟩:=x;exact⟨v,h0,U,F.sD hg Z K⟩
theorem KM(w0:World)(A:Option Addr)(c:Nat)(l:List xC)(w:World)(hA:wH w0 19 (yY w0) A l)(hw:ao w0 w)(E:l.length<=100)(hn:∀h∈l,h.ns.length<=100):
  Calls prog 63 #[.slice A l.length c] w (Rb w0 l w):=by
 obtain⟨Z0,hZ0,hmk⟩:=aaL l.length E;have LH:=J (fun(W:World) (g:Nat) (hA':wH W 19 (sG w0 W) (some ⟨g,0,none⟩) (l.map wh)) (hW:ao w0 W)=>XF w0 (some ⟨g,0,none⟩) l.length (l.map wh) (l.map wh).length W hA' hW (fun h hh=>by obtain⟨x,hx,rfl⟩:=List.mem_map.1 hh;exact acW x (hn x hx)) dd dd);rw[List.length_map]at LH;have hzl:zR.length=19:=rfl;have C0:=N.new w 74 Z0;have HB0:Below w.heap.size w (w.alloc (.cells Z0.toArray 74)):=fZ;go_enter func63,ntmps63;go_wp2_with fail;go_loopw[11] (fun iv wr=>∃(k:Nat) (css:List (List Value)) (ahX:List Value),k<=l.length/\iv= .int .i64 k/\wO (sG w0 wr) css ((l.take k).map wh)/\ahX.length=(l.length-k)*19/\N wr w.heap.size 74 (css.flatten++ahX)/\ao w wr) (fun iv _=>l.length-(intOf iv).toNat)
 case atStart=>exact⟨0,[],Z0,Nat.zero_le _,I,trivial,by rw[hZ0];omega,C0,HB0⟩
 clear C0 HB0 hmk hZ0;obtain⟨k,css,ahX,O,rfl,hE,hZ,hBk,hB⟩:=hrel;by_cases aA:k<l.length
 case neg=>
  have h1:¬(k:Int)<l.length:=Y;obtain rfl:k=l.length:=Y;obtain rfl:ahX=[]:=gE;rw[List.take_length]at hE;rw[List.append_nil]at hBk;have hLI:wH wr 19 (sG w0 wr) (some ⟨w.heap.size,0,none⟩) (l.map wh):=by intro hp;refine⟨w.heap.size,0,I,hBk.lt,fun i hi=>?_⟩;obtain⟨cs,U,F⟩:=hE.get (fun _ _ h=>h.len) [] i hi;rw[List.append_nil]at U;exact⟨cs,by rw[Nat.zero_add,<-U];exact hBk.range _ _ (by rw[zp (fun _ _ h=>sG.len h) hE];have:=Nat.mul_le_mul_right 19 (Nat.succ_le_of_lt hi);rw[Nat.succ_mul]at this;omega),F⟩
  have L2:=J (LH.out wr w.heap.size hLI (rC hw hw.size hB));clear LH hE hLI;go_wp2_with fail;refine L2.out.mono ?_;rintro _ w2 ⟨v,rfl,hO,b2⟩;obtain⟨A2,c2,hv⟩:=hO.form;subst hv;go_wp2_with fail;go_ret;refine⟨_,I,?_,rC hB hB.size b2⟩;unfold tI;rw[List.length_map];exact(rJ.G (R':=sG w0 w2) hO (Below.refl _ _) (fun _ _ h=>h.G b2)).zero
 have h1:(k:Int)<l.length:=Y;obtain⟨b,off,rfl,Z,hr⟩:=hA Y;obtain⟨cs,hcs,hce⟩:=hr k aA;have hcs:=rN (rN hcs hw Z) hB (Nat.lt_of_lt_of_le Z hw.size);have hcl:=hce.len;have w1:=hce.one;obtain⟨An,cn,hcc,rB,hNm⟩:=hce;have hLa:=l[k].ad.rY rB;have L0:(cs.drop 0).take 18=l[k].ad.cells:=jS;have L18:cs[18]?=some (.slice An l[k].ns.length cn):=by rw[hcc,List.getElem?_append_right Y,hLa];rfl
 have hnk:=hn _ (List.getElem_mem aA);have W1:Below wr.heap.size wr (wr.alloc (.cells zR.toArray 74)):=fZ;have HE:=J hE;have HN:=J hNm;have HIP:=J rB;have ET:=J (List.take_succ_eq_append_getElem aA);have HC:=J (show wh l[k]=⟨l[k].ad,sL xu l[k].ns l[k].ns.length⟩from I);clear hr hE hNm rB hcc LH;go_wp2_with(first
  |(refine rF (.load 74 (.tmp 14)) rfl ?_;go_must(refine sr rfl 74 (.tmp 14) rfl b (off+k*19) rfl cs hcs _ underlying74 rfl dc ?_))
  |(refine rF (.store 74 (.tmp 5) (.tmp 15)) rfl (ab rfl wr.heap.size 0 cs (N.new wr 74 zR) de dc w1 ?_)))
 intro B B1 g1 _;have B1':=tH B1 Y;have K1:=rE W1 g1 W1.size (Nat.le_refl _);have H1:=rC hB hB.size K1;have aps:=hBk.G K1 hBk.lt;have hgw:=hBk.lt;have c18:=B1'.rD 18 L18;clear B1 g1 W1 hcs hBk;have gne:some wr.heap.size≠some w.heap.size:=by intro e;injection e with e;omega
 have LA:Hid (∀V,B.grownBy V (some w.heap.size)->(Instr.loadAt 67 (.pointer (some ⟨wr.heap.size,0,none⟩))).run prog V= .ok (.agg l[k].ad.cells.toArray) V):=J (fun V hV=>(B1'.grown hV gne).tW 67 0 18 Y _ underlying67 I uq _ L0);have LN:Hid (∀V,B.grownBy V (some w.heap.size)->(Instr.loadAt 26 (.pointer (some ⟨wr.heap.size,18,none⟩))).run prog V= .ok (.slice An l[k].ns.length cn) V):=J (fun V hV=>rQ underlying26 I (N.rD (B1'.grown hV gne) 18 L18));have HB1:=rC hw hw.size H1;have LC:=J (fun V (hV:B.grownBy V (some w.heap.size))=>Xf w0 An cn l[k].ns l[k].ns.length V HN.out (rE HB1 hV HB1.size hw.size) Y hnk);have RB:=J (fun A x y V=>Oj l[k].ad.cells hLa A x y V);obtain⟨nl,hnl⟩:∃nl,l[k].ns.length=nl:=gh;rw[hnl]at LN LC HC hnk;clear L0 L18 c18 HN;go_wp2_with fail;refine wp_region_held_drew (S:=fun V=>B.grownBy V (some w.heap.size)) (by kernel_rfl) (wI (World.grownBy.refl _ _)) (fun hS=>?_);refine rS hS 9 [0,1,2,3,4,5,6,7,8] I (by kernel_rfl) (fun _ _ _ _ _ h=>h) I I ?_
 (refine ak (.slice (some ⟨w.heap.size,0,none⟩) l.length l.length) ?_;simp only[X])
 (refine ak (.int .i64 k) ?_;simp only[X])
 (refine ak (.pointer (some ⟨wr.heap.size,0,none⟩)) ?_;simp only[X])
 (refine aj _ I I (fun V hV=>(rX 67 (.tmp 18) ⟨wr.heap.size,0,none⟩ I I (LA.out V hV))) ?_;simp only[X])
 (refine ak (.pointer (some ⟨wr.heap.size,18,none⟩)) ?_;simp only[X])
 (refine aj _ I I (fun V hV=>(rX 26 (.tmp 20) ⟨wr.heap.size,18,none⟩ I I (LN.out V hV))) ?_;simp only[X])
 (refine ak (.pointer (some ⟨wr.heap.size,18,none⟩)) ?_;simp only[X])
 (refine aj _ I I (fun V hV=>(rX 26 (.tmp 22) ⟨wr.heap.size,18,none⟩ I I (LN.out V hV))) ?_;simp only[X])
 (refine aj (.int .i64 nl) I I (fun V hV=>bc) ?_;simp only[X])
 simp only[sS];refine su 9 (some 25) 55 #[.slice An nl cn,.int .i64 nl,.func (.func 56) #[] #[]] (by kernel_rfl) I I (by kernel_rfl) bc (LC.out _ hS) ?_;rintro _ w6 ⟨v6,rfl,hO6,b6⟩;have K6:B.grownBy w6 (some w.heap.size):=tO hS b6;obtain⟨A6,c6,hv6⟩:=hO6.form;subst hv6;have avI:=J hO6.zero;refine⟨_,I,K6,?_⟩;clear hS;have hS:=K6;simp only[X];generalize(sL xu l[k].ns nl).length=n6 at*;refine rS hS 2 [10,11] I (by kernel_rfl) (fun _ _ _ _ _ h=>h) I I ?_
 (refine aj (.agg (l[k].ad.cells++[Value.slice A6 n6 c6]).toArray) I I (fun V hV=>(wm 74 _ I #[(0,.agg l[k].ad.cells.toArray),(1,.slice A6 n6 c6)] (by kernel_rfl) (RB.out A6 n6 c6 V))) ?_;simp only[X])
 (refine aj _ I I (fun V hV=>(vi underlying22 yN K (.tmp 16) (.tmp 17) I I I aA V)) ?_;simp only[X])
 simp only[sS];have ar7:N w6 w.heap.size 74 (css.flatten++ahX):=aps.drew.G b6 aps.drew.lt;have hEl:=zp (fun _ _ h=>sG.len h) HE.out;rw[List.length_map,List.length_take,Nat.min_eq_left O]at hEl;have hsl:(l[k].ad.cells++[Value.slice A6 n6 c6]).length=19:=by simp[hLa]
 have hs1:∀v∈l[k].ad.cells++[Value.slice A6 n6 c6],v.oneCell'=true:=by
  intro y hy;rcases List.mem_append.1 hy with hy|hy
  ·exact l[k].ad.tm _ hy
  ·rw[List.mem_singleton.1 hy];rfl
 have ann:(l.length-k)*19=(l.length-(k+1))*19+19:=Y;refine wL 12 none 74 (.tmp 27) (.tmp 26) (by kernel_rfl) I I I (by kernel_rfl) w.heap.size (0+k*19) I (l[k].ad.cells++[Value.slice A6 n6 c6]) I ar7 (by rw[hsl,List.length_append,hEl,hZ];omega) (by rw[hsl];exact yN) hs1 ?_;intro w7 B7 g7 _;rw[Nat.zero_add,acX hEl (by rw[hsl,hZ];omega)]at B7;have G7:B.grownBy w7 (some w.heap.size):=rO K6 g7 (.inl I);have H7:ao w w7:=rE H1 G7 H1.size (Nat.le_refl _);have E7:wO (sG w0 w7) (css++[l[k].ad.cells++[Value.slice A6 n6 c6]]) ((l.take (k+1)).map wh):=by rw[ET.out,List.map_append];refine wO.TU ?_ (HE.out.mono (fun _ _ x=>(x.G K1).sD G7 aps));rw[HC.out];exact⟨_,I,HIP.out,avI.out.sD g7 ar7 K⟩
 have B8:N w7 w.heap.size 74 ((css++[l[k].ad.cells++[Value.slice A6 n6 c6]]).flatten++ahX.drop 19):=by rw[List.flatten_append,List.flatten_cons,List.flatten_nil,List.append_nil];rwa[hsl]at B7
 have Z8:(ahX.drop 19).length=(l.length-(k+1))*19:=by rw[List.length_drop,hZ];omega
 refine⟨G7,?_⟩;simp only[X];refine wpAnyH_done (by kernel_rfl) ?_ _;clear hS K6 ar7 aps B1' LA LN LC RB HE HC HIP avI g7 B7 G7 K1 H1 b6 HB1;go_wp2_with fail;go_roundw
 case rel=>exact⟨k+1,_,_,Y,fQ,E7,Z8,B8,H7⟩
 case measure=>simp[intOf];omega
theorem rJ.rows{α:Type}{R:List Value->α->Prop}{e:TypeId}(k:Nat){css:List (List Value)}{l:List α}(Z:N w g e css.flatten)(O:∀cs x,R cs x->cs.length=k)(hE:wO R css l)(hm:l.length<=maxLen):rJ w 0 e k R (.slice (some ⟨g,0,none⟩) l.length l.length) l:=by
 have E:=zp O hE;refine⟨css,⟨E,.inr ⟨g,l.length,css.flatten.toArray,I,Nat.zero_le _,Z,Nat.le_refl _,hm,by simp[E],?_⟩⟩,hE⟩;exact List.take_of_length_le (by rw[E];exact Nat.le_refl _)
def Gj:List Src:=[⟨1,true,false,false,false⟩,⟨2,true,false,false,false⟩]
theorem Ur(w:World):Calls prog 62 #[] w (fun e w'=>∃A c,e= .returned (.slice A 2 c)/\rJ w' 0 86 5 uK (.slice A 2 c) Gj/\ao w w'):=by
 have S:=J (fun k W=>Uq k W);unfold acU at S;go_enter func62,ntmps62;go_wp2_with fail;refine(S.out 1 _).mono ?_;rintro _ B ⟨rfl,b1⟩;go_wp2_with fail;refine(S.out 2 _).mono ?_;rintro _ w2 ⟨rfl,b2⟩;go_wp2_with fail;go_ret;refine⟨_,_,I,?_,(rC b1 b1.size b2).alloc (by have:=b1.size;have:=b2.size;omega) _⟩;exact rJ.rows (css:=[Jx ⟨1,true,false,false,false⟩,Jx ⟨2,true,false,false,false⟩]) (l:=Gj) 5 (N.new w2 _ _) (fun _ _ h=>by rw[h];rfl) ⟨I,I,trivial⟩ K
def sP(l:List Src):List Src:=if sL vH l 8=[]then Gj else sL vH l 8
theorem sG.Ht{t:TypeId}{h:xC}(x:sG w0 w cs h)(hg:w.grownBy w' (some g))(Z:N w g t L)(ht:t≠24):sG w0 w' cs h:=by
 obtain⟨v,h0,U,F⟩:=x;exact⟨v,h0,U,F.sD hg Z ht⟩
def JA(w0:World)(r:Rs)(hs:List xC)(ss:List Src)(w:World)(e:Ending)(w':World):Prop:=∃cs v1 v2 v3,e= .returned (.agg (cs++[v1,v2,v3]).toArray)/\Jw w0 w' cs (rT r)/\rJ w' 0 74 19 (sG w0 w') v1 (tI hs)/\rJ w' 0 86 5 uK v2 (sP ss)/\v3.oneCell'=true/\ao w w'
theorem Gk(w0:World)(cs:List Value)(r:Rs)(Ah As Asv:Option Addr)(ch cS csv:Nat)(hs:List xC)(ss:List Src)(vs:List He)(w:World)(h:Bk w0 w cs r)(hw:ao w0 w)
  (hH:wH w0 19 (yY w0) Ah hs) (hhl:hs.length<=100) (hhn:∀h∈hs,h.ns.length<=100) (hSr:wH w0 5 uK As ss) (hsl:ss.length<=17592186044416) (hSv:wH w0 3 wG Asv vs) (hvl:vs.length<=1000):
  Calls prog 34 #[.agg (cs++[Value.slice Ah hs.length ch,Value.slice As ss.length cS,Value.slice Asv vs.length csv]).toArray] w (JA w0 r hs ss w):=by
 obtain⟨A1,c1,A2,c2,A3,c3,rfl,U,F,h3,l1,l2,l3⟩:=h;have L1:Hid (∀W,ao w W->Calls prog 52 #[.slice A1 r.sv.length c1,.int .i64 3,.func (.func 53) #[] #[]] W (wC 67 18 (fun _=>xH) (sL zi r.sv 3) W)):=J (fun W Z=>Xb A1 c1 r.sv 3 W (U.mono Z (fun _ _ h=>h)) l1 K);have L2:Hid (∀W,ao w W->Calls prog 55 #[.slice A2 r.se.length c2,.int .i64 6,.func (.func 56) #[] #[]] W (wC 24 1 (fun _=>Ii w0) (sL xu r.se 6) W)):=J (fun W Z=>Qx w0 A2 c2 r.se 6 W (F.mono Z (fun _ _ h=>h)) (rC hw hw.size Z) l2 K);have L3:Hid (∀W,ao w W->Calls prog 57 #[.slice A3 r.so.length c3,.int .i64 10,.func (.func 58) #[] #[]] W (wC 112 19 (fun _=>Md) (sL Qw r.so 10) W)):=J (fun W Z=>Xe A3 c3 r.so 10 W (h3.mono Z (fun _ _ h=>h)) l3 K);have LS:Hid (∀W,ao w W->Calls prog 60 #[.slice As ss.length cS,.int .i64 8,.func (.func 61) #[] #[]] W (wC 86 5 (fun _=>uK) (sL vH ss 8) W)):=J (fun W Z=>XD As cS ss 8 W (hSr.mono (rC hw hw.size Z) (fun _ _ h=>h)) hsl K);have HH:Hid (∀W,ao w W->Calls prog 63 #[.slice Ah hs.length ch] W (Rb w0 hs W)):=J (fun W Z=>KM w0 Ah ch hs W hH (rC hw hw.size Z) hhl hhn);have LV:Hid (∀W,ao w W->Calls prog 64 #[.slice Asv vs.length csv,.int .i64 vs.length,.func (.func 65) #[] #[]] W (wC 77 3 (fun _=>wG) (sL Jy vs vs.length) W)):=J (fun W Z=>XE Asv csv vs vs.length W (hSv.mono (rC hw hw.size Z) (fun _ _ h=>h)) Y hvl);have HS4:Hid (sP ss=if sL vH ss 8=[]then Gj else sL vH ss 8):=jO;clear hH hhl hhn hSr hsl hSv;generalize sL vH ss 8=s4 at*;generalize hs.length=m1,ss.length=m2 at*;generalize sL Jy vs vs.length=s5 at*;generalize vs.length=m3 at*;obtain⟨hr1,HR1⟩:∃x,Hid (rT r=x):=ji;have HR:Hid (rT r={r with sv:=if sL zi r.sv 3=[]then[tX 127 0 0 1]else sL zi r.sv 3,se:=sL xu r.se 6,so:=sL Qw r.so 10,nd:=min (max r.nd 0) 15,tmo:=min (max r.tmo 1) 30,rU:=min (max r.rU 1) 5}):=jO;clear U F h3 l1 l2 l3 HR1 hr1 hw;generalize sL zi r.sv 3=s1 at*;generalize sL xu r.se 6=s2 at*;generalize sL Qw r.so 10=s3 at*;obtain⟨svs,ses,sos,nd,tmo,att,ro,vc,si,ed⟩:=r;simp only at L1 L2 L3 HR;simp only[zQ,List.cons_append,List.nil_append];generalize svs.length=n1,ses.length=n2,sos.length=n3 at*;go_enter func34,ntmps34;go_wp2_with fail;obtain⟨hk,hX⟩:∃hk,hk=((w.alloc (.cells #[.slice A1 n1 c1,.slice A2 n2 c2,.slice A3 n3 c3,.int .i64 nd,.int .i64 tmo,.int .i64 att,.bool ro,.bool vc,.bool si,.bool ed,.slice Ah m1 ch,.slice As m2 cS,.slice Asv m3 csv] 33)).alloc (.cells #[.slice none 0 0,.slice none 0 0,.slice none 0 0,.int .i64 0,.int .i64 0,.int .i64 0,.bool false,.bool false,.bool false,.bool false,.slice none 0 0,.slice none 0 0,.slice none 0 0] 33)).alloc (.cells #[.slice A1 n1 c1,.slice A2 n2 c2,.slice A3 n3 c3,.int .i64 nd,.int .i64 tmo,.int .i64 att,.bool ro,.bool vc,.bool si,.bool ed] 29):=gh;rw[<-hX];have HX:ao w hk:=by rw[hX];exact(((Below.refl _ _).alloc (Nat.le_refl _) _).alloc ar _).alloc aB _
 obtain⟨cz,hcz⟩:∃cz:List Value,cz=[.slice none 0 0,.slice none 0 0,.slice none 0 0,.int .i64 0,.int .i64 0,.int .i64 0,.bool false,.bool false,.bool false,.bool false,.slice none 0 0,.slice none 0 0,.slice none 0 0]:=gh;have C1:N hk w.heap.size 33 [.slice A1 n1 c1,.slice A2 n2 c2,.slice A3 n3 c3,.int .i64 nd,.int .i64 tmo,.int .i64 att,.bool ro,.bool vc,.bool si,.bool ed,.slice Ah m1 ch,.slice As m2 cS,.slice Asv m3 csv]:=by rw[hX];exact((N.new w _ _).alloc _).alloc _
 have C2:N hk (w.heap.size+1) 33 cz:=by rw[hX,hcz];exact(N.uE _ _ _ _ ar).alloc _
 have C3:N hk (w.heap.size+1+1) 29 [.slice A1 n1 c1,.slice A2 n2 c2,.slice A3 n3 c3,.int .i64 nd,.int .i64 tmo,.int .i64 att,.bool ro,.bool vc,.bool si,.bool ed]:=by rw[hX];exact N.uE _ _ _ _ ar
 have aKG:cz.length=13:=by rw[hcz];rfl
 obtain⟨cl,hcl⟩:∃cl:List Value,cl=[.slice A1 n1 c1,.slice A2 n2 c2,.slice A3 n3 c3,.int .i64 nd,.int .i64 tmo,.int .i64 att,.bool ro,.bool vc,.bool si,.bool ed,.slice Ah m1 ch,.slice As m2 cS,.slice Asv m3 csv]:=gh;rw[<-hcl]at C1;have k10:cl[10]?=some (.slice Ah m1 ch):=lS;have k11:cl[11]?=some (.slice As m2 cS):=lS;have k12:cl[12]?=some (.slice Asv m3 csv):=lS;have h13:w.heap.size≠w.heap.size+1+1:=Y;have h23:w.heap.size+1≠w.heap.size+1+1:=Y;have h12:w.heap.size<w.heap.size+1:=Y;have rH:w.heap.size<=w.heap.size+1+1:=Y;clear hX hcz hcl;refine(L1.out _ HX).mono ?_;rintro _ B ⟨v1,rfl,o1,b1⟩;replace C1:=C1.G b1 C1.lt;replace C2:=C2.G b1 C2.lt;replace C3:=C3.G b1 C3.lt;have H1:=rC HX HX.size b1;replace o1:=rJ.zero o1;clear b1 L1 HX;obtain⟨S1,hS1⟩:=aq ((if s1=[]then[tX 127 0 0 1]else s1));rw[hS1.out]at HR;generalize w.heap.size+1+1=g3 at*;generalize w.heap.size+1=g2 at*;obtain⟨Av,cv,hv⟩:=o1.form;subst hv;have d0:=C3.rD 0 I;have f0:=C3.frozen 0;go_upto_if 14 with fail;go_cut[] (fun wx=>∃v,uG wx 0 v S1/\N wx w.heap.size 33 cl/\N wx g2 33 cz/\N wx g3 29 [v,.slice A2 n2 c2,.slice A3 n3 c3,.int .i64 nd,.int .i64 tmo,.int .i64 att,.bool ro,.bool vc,.bool si,.bool ed]/\ao w wx)
 case first=>
  by_cases hs:s1=[]
  case pos=>
   subst hs;have hq:S1=[tX 127 0 0 1]:=by rw[<-hS1.out,if_pos I]
   have QO:Hid (∀W,Calls prog 54 #[.int .u8 127,.int .u8 0,.int .u8 0,.int .u8 1] W (rW (.agg (tX 127 0 0 1).cells.toArray) W)):=J (fun W=>IF 127 0 0 1 W);have HQ:=J hq;have hql:(tX 127 0 0 1).cells.length=18:=rfl;have hqo:∀v∈(tX 127 0 0 1).cells,v.oneCell'=true:=sg.tm _;have HI:Hid (xH (tX 127 0 0 1).cells (tX 127 0 0 1)):=J ⟨I,I⟩;clear hq hS1 HR;generalize tX 127 0 0 1=qa at*;generalize qa.cells=qc at*;go_wp2_with fail;refine(QO.out _).mono ?_;rintro _ w2 ⟨rfl,b2⟩;have G1:=sU B g3 0 (.slice Av 0 cv);have E1:=(C1.wZ (p:=⟨g3,0,none⟩) h13 (.slice Av 0 cv)).G b2 (C1.wZ (p:=⟨g3,0,none⟩) h13 _).lt;have E2:=(C2.wZ (p:=⟨g3,0,none⟩) h23 (.slice Av 0 cv)).G b2 (C2.wZ (p:=⟨g3,0,none⟩) h23 _).lt;have E3:=(C3.set 0 (.slice Av 0 cv)).G b2 (C3.set 0 _).lt;simp only[List.set_cons_zero]at E3;have H2:=rC (rE H1 G1 H1.size rH) (by simp[World.setCell];exact H1.size) b2;clear QO b2 G1 C1 C2 C3 d0 f0 L2 L3 o1;go_wp2_with(refine rF (.buildSlice 25 1 #[(0,.tmp 15)]) I ?_;go_must(refine vQ I 25 67 _ 18 32 underlying25 vg K K (.tmp 15) I qc I hql ?_));intro w3 B4 KA;have O5:=rJ.one 18 B4 hql HI.out;replace E1:=E1.G KA E1.lt;replace E2:=E2.G KA E2.lt;replace E3:=E3.G KA E3.lt;have H3:=rC H2 H2.size KA;have e30:=E3.rD 0 I;have e3f:=E3.frozen 0;clear HI KA H2 B4;go_wp2_with fail;go_meet
   case rel=>refine⟨_,?_,E1.wZ h13 _,E2.wZ h23 _,E3.set 0 _,rE H3 (sU _ _ _ _) H3.size rH⟩;exact ri
  case neg=>
   have hs0:0<s1.length:=by cases s1 with|nil=>exact absurd rfl hs|cons _ _=>simp
   have hs1:((s1.length:Int)==0)=false:=by simp;exact hs
   have hq:S1=s1:=by rw[<-hS1.out,if_neg hs]
   have HQ:=J hq;clear hq hS1 HR hs;obtain⟨ln,hln⟩:=aq s1.length;rw[hln.out]at o1 hs0 hs1⊢;go_wp2_with fail;go_meet
   case rel=>refine⟨_,?_,C1.wZ h13 _,C2.wZ h23 _,C3.set 0 _,rE H1 (sU _ _ _ _) H1.size rH⟩;rw[HQ.out];exact o1.sD (sU _ _ _ _) C3 K
 case rest=>
  obtain⟨v1,p1,E1,E2,E3,H2⟩:=hcut;clear C1 C2 C3 d0 f0 H1 o1 hS1;generalize wc=w2 at*;have d1:=E3.rD 1 I;obtain⟨Aw,cw,hv⟩:=p1.form;subst hv;go_wp2_with fail;refine(L2.out _ H2).mono ?_;rintro _ w3 ⟨v2,rfl,o2,b3⟩;replace p1:=rJ.G (R':=xH) p1 b3 (fun _ _ h=>h);have F1:=E1.G b3 E1.lt;have F2:=E2.G b3 E2.lt;have F3:=E3.G b3 E3.lt;have H3:=rC H2 H2.size b3;replace o2:=rJ.zero o2;obtain⟨Ax,cx,hv⟩:=o2.form;subst hv;have d2:=F3.rD 2 I;have e1:=F3.rD 1 I;have ef:=F3.frozen 1;clear L2 b3 E1 E2 E3 d1 H2;go_wp2_with fail;refine(L3.out _ (rE H3 (sU _ _ _ _) H3.size rH)).mono ?_;rintro _ w4 ⟨v3,rfl,o3,b4⟩;have K3:=sU w3 g3 1 (.slice Ax s2.length cx);have G1:=(F1.wZ (p:=⟨g3,1,none⟩) h13 (.slice Ax s2.length cx)).G b4 (F1.wZ (p:=⟨g3,1,none⟩) h13 _).lt;have G2:=(F2.wZ (p:=⟨g3,1,none⟩) h23 (.slice Ax s2.length cx)).G b4 (F2.wZ (p:=⟨g3,1,none⟩) h23 _).lt;have G3:=(F3.set 1 (.slice Ax s2.length cx)).G b4 (F3.set 1 _).lt;replace p1:=rJ.G (R':=xH) (p1.sD K3 F3 K) b4 (fun _ _ h=>h);replace o2:=rJ.G (R':=Ii w0) (o2.sD K3 F3 K) b4 (fun _ _ h=>h);replace o3:=rJ.zero o3;have H4:=rC (rE H3 K3 H3.size rH) (by simp[World.setCell];exact H3.size) b4;simp only[List.set_cons_zero,List.set_cons_succ]at G3;obtain⟨Ay,cy,hv⟩:=o3.form;subst hv;have d2:=G3.rD 2 I;have d3:=G3.rD 3 I;have d4:=G3.rD 4 I;have d5:=G3.rD 5 I;have f2:=G3.frozen 2;have f3:=G3.frozen 3;have f4:=G3.frozen 4;have f5:=G3.frozen 5;have d11:=G1.rD 11 k11;clear K3 b4 F1 F2 F3 e1 ef L3 H3;go_wp2_with fail;refine(FZ nd 0 15 _).mono ?_;rintro _ _ ⟨rfl,rfl⟩;go_wp2_with fail;refine(FZ tmo 1 30 _).mono ?_;rintro _ _ ⟨rfl,rfl⟩;go_wp2_with fail;refine(FZ att 1 5 _).mono ?_;rintro _ _ ⟨rfl,rfl⟩;go_wp2_with fail;have Q1:=G1.wZ (p:=⟨g3,2,none⟩) h13 (.slice Ay s3.length cy)|>.wZ (p:=⟨g3,3,none⟩) h13 (.int .i64 (min (max nd 0) 15))|>.wZ (p:=⟨g3,4,none⟩) h13 (.int .i64 (min (max tmo 1) 30))|>.wZ (p:=⟨g3,5,none⟩) h13 (.int .i64 (min (max att 1) 5));have Q2:=G2.wZ (p:=⟨g3,2,none⟩) h23 (.slice Ay s3.length cy)|>.wZ (p:=⟨g3,3,none⟩) h23 (.int .i64 (min (max nd 0) 15))|>.wZ (p:=⟨g3,4,none⟩) h23 (.int .i64 (min (max tmo 1) 30))|>.wZ (p:=⟨g3,5,none⟩) h23 (.int .i64 (min (max att 1) 5));have Q3:=G3.set 2 (.slice Ay s3.length cy)|>.set 3 (.int .i64 (min (max nd 0) 15))|>.set 4 (.int .i64 (min (max tmo 1) 30))|>.set 5 (.int .i64 (min (max att 1) 5));simp only[List.set_cons_zero,List.set_cons_succ]at Q3;have KQ:w4.grownBy _ (some g3):=sd (sd (sd (sU w4 g3 2 (.slice Ay s3.length cy)) 3 (.int .i64 (min (max nd 0) 15))) 4 (.int .i64 (min (max tmo 1) 30))) 5 (.int .i64 (min (max att 1) 5));replace p1:=p1.sD KQ G3 K;replace o2:=o2.sD KQ G3 K;replace o3:=o3.sD KQ G3 K;have H4':=rE H4 KQ H4.size rH;clear KQ G1 G2 G3 d2 d3 d4 d5 f2 f3 f4 f5 H4;refine(LS.out _ H4').mono ?_;rintro _ w5 ⟨v4,rfl,o4,b5⟩;replace p1:=rJ.G (R':=xH) p1 b5 (fun _ _ h=>h);replace o2:=rJ.G (R':=Ii w0) o2 b5 (fun _ _ h=>h);replace o3:=rJ.G (R':=Md) o3 b5 (fun _ _ h=>h);replace Q1:=Q1.G b5 Q1.lt;replace Q2:=Q2.G b5 Q2.lt;replace Q3:=Q3.G b5 Q3.lt;have H5:=rC H4' H4'.size b5;replace o4:=rJ.zero o4;clear b5 H4' LS d11;obtain⟨A4,c4,hv⟩:=o4.form;subst hv;obtain⟨S4,hS4⟩:=aq (sP ss);rw[hS4.out]at HS4;obtain⟨R,hR⟩:∃R:List Value,Hid (R=[.slice Aw S1.length cw,.slice Ax s2.length cx,.slice Ay s3.length cy,.int .i64 (min (max nd 0) 15),.int .i64 (min (max tmo 1) 30),.int .i64 (min (max att 1) 5),.bool ro,.bool vc,.bool si,.bool ed]):=ji;rw[<-hR.out]at Q3;have hRl:R.length=10:=by rw[hR.out];rfl
  have RO:Hid (uG w5 0 (.slice Aw S1.length cw) S1/\Ub w0 w5 0 (.slice Ax s2.length cx) s2/\acx w5 0 (.slice Ay s3.length cy) s3):=J ⟨p1,o2,o3⟩;clear p1 o2 o3;go_upto_if 43 with fail;go_cut[4] (fun v wx=>∃A' c',v= .slice A' S4.length c'/\rJ wx 0 86 5 uK (.slice A' S4.length c') S4/\ao w5 wx)
  case first=>
   by_cases hs4:s4=[]
   case pos=>
    subst hs4;have hq:=J (show S4=Gj by rw[HS4.out,if_pos I]);go_wp2_with fail;refine(Ur _).mono ?_;rintro _ w6 ⟨A6,c6,rfl,o6,b6⟩;go_wp2_with fail;go_meet
    case rel=>exact⟨A6,c6,by rw[hq.out];rfl,by rw[hq.out];exact o6,b6⟩
   case neg=>
    have hs1:((s4.length:Int)==0)=false:=by simp;exact hs4
    have hq:=J (show S4=s4 by rw[HS4.out,if_neg hs4]);clear hs4;obtain⟨ln,hln⟩:=aq s4.length;rw[hln.out]at o4 hs1⊢;go_wp2_with fail;go_meet
    case rel=>exact⟨A4,c4,by rw[hq.out,hln.out],by rw[hq.out,hln.out];exact o4,Below.refl _ _⟩
  case rest=>
   obtain⟨A5,c5,rfl,o5,b5⟩:=hcut;obtain⟨w6,rfl⟩:∃w6,w6=wc:=gh;have Q1:=Q1.G b5 Q1.lt;have Q2:=Q2.G b5 Q2.lt;have Q3:=Q3.G b5 Q3.lt;have H6:=rC H5 H5.size b5;have RO6:Hid (uG w6 0 (.slice Aw S1.length cw) S1/\Ub w0 w6 0 (.slice Ax s2.length cx) s2/\acx w6 0 (.slice Ay s3.length cy) s3):=J ⟨rJ.G (R':=xH) RO.out.1 b5 (fun _ _ h=>h),rJ.G (R':=Ii w0) RO.out.2.1 b5 (fun _ _ h=>h),rJ.G (R':=Md) RO.out.2.2 b5 (fun _ _ h=>h)⟩;clear RO o4 HS4 b5 H5;have RON:Hid (∀v∈R,v.oneCell'=true):=J (fun v hv=>by
    rw[hR.out]at hv;simp only[List.mem_cons,List.not_mem_nil,or_false]at hv;rcases hv with rfl|rfl|rfl|rfl|rfl|rfl|rfl|rfl|rfl|rfl<;>rfl)
   have RB:Hid (∀(B1 B2 B3:Option Addr) (x1 y1 x2 y2 x3 y3:Nat) (W:World),(Instr.build 33 #[(0,.agg R.toArray),(1,.slice B1 x1 y1),(2,.slice B2 x2 y2),(3,.slice B3 x3 y3)]).run prog W= .ok (.agg (R++[Value.slice B1 x1 y1,Value.slice B2 x2 y2,Value.slice B3 x3 y3]).toArray) W):=J (fun B1 B2 B3 x1 y1 x2 y2 x3 y3 W=>by rw[hR.out];kernel_rfl);generalize S4.length=n4 at*;go_wp2_with fail;refine wp_region_held_drew (S:=fun V=>N V w.heap.size 33 cl/\N V g3 29 R) (by kernel_rfl) ⟨Q1.drew,Q3.drew⟩ (fun hS=>?_);have HD:Below w6.heap.size w6 w6.drew:=ix;refine rS hS 9 [0,1,2,4,5,6,7,8,9] I (by kernel_rfl) (fun _ _ _ _ _ h=>h) I I ?_
   (refine aj _ I I (fun V hV=>(rX 29 (.tmp 3) ⟨g3,0,none⟩ I I (hV.2.tW 29 0 10 Y _ underlying29 I wE R (uH Y)))) ?_;simp only[X])
   (refine ak (.pointer (some ⟨w.heap.size,10,none⟩)) ?_;simp only[X])
   (refine aj _ I I (fun V hV=>(rX 22 (.tmp 46) ⟨w.heap.size,10,none⟩ I I (rQ underlying22 I (hV.1.rD 10 k10)))) ?_;simp only[X])
   (refine ak (.slice A5 n4 c5) ?_;simp only[X])
   (refine ak (.pointer (some ⟨w.heap.size,12,none⟩)) ?_;simp only[X])
   (refine aj _ I I (fun V hV=>(rX 31 (.tmp 50) ⟨w.heap.size,12,none⟩ I I (rQ underlying31 I (hV.1.rD 12 k12)))) ?_;simp only[X])
   (refine ak (.pointer (some ⟨w.heap.size,12,none⟩)) ?_;simp only[X])
   (refine aj _ I I (fun V hV=>(rX 31 (.tmp 52) ⟨w.heap.size,12,none⟩ I I (rQ underlying31 I (hV.1.rD 12 k12)))) ?_;simp only[X])
   (refine aj (.int .i64 m3) I I (fun V hV=>bc) ?_;simp only[X])
   simp only[sS];refine su 3 (some 48) 63 #[.slice Ah m1 ch] (by kernel_rfl) I I (by kernel_rfl) bc (HH.out _ (rC H6 H6.size HD)) ?_;rintro _ w7 ⟨v7,rfl,oh,b7⟩;obtain⟨A7,c7,hv⟩:=oh.form;subst hv;have hS7:N w7 w.heap.size 33 cl/\N w7 g3 29 R:=⟨hS.1.G b7 hS.1.lt,hS.2.G b7 hS.2.lt⟩;have HD7:=rC HD HD.size b7;refine⟨_,I,hS7,?_⟩;clear hS;have hS:=hS7;simp only[X];refine su 10 (some 55) 64 #[.slice Asv m3 csv,.int .i64 m3,.func (.func 65) #[] #[]] (by kernel_rfl) I I (by kernel_rfl) bc (LV.out _ (rC H6 H6.size HD7)) ?_;rintro _ w8 ⟨v8,rfl,ov,b8⟩;obtain⟨A8,c8,hv⟩:=ov.form;subst hv;have hS8:N w8 w.heap.size 33 cl/\N w8 g3 29 R:=⟨hS.1.G b8 hS.1.lt,hS.2.G b8 hS.2.lt⟩;have HD8:=rC HD7 HD7.size b8;have oh8:=J (rJ.G (R':=sG w0 w8) oh b8 (fun _ _ x=>x.G b8));refine⟨_,I,hS8,?_⟩;clear hS hS7 oh ov HD HD7;have hS:=hS8;simp only[X];generalize(tI hs).length=n7 at*;generalize s5.length=n8 at*;refine rS hS 1 [11] I (by kernel_rfl) (fun _ _ _ _ _ h=>h) I I ?_
   (refine aj (.agg (R++[Value.slice A7 n7 c7,Value.slice A5 n4 c5,Value.slice A8 n8 c8]).toArray) I I (fun V hV=>(wm 33 _ I #[(0,.agg R.toArray),(1,.slice A7 n7 c7),(2,.slice A5 n4 c5),(3,.slice A8 n8 c8)] (by kernel_rfl) (RB.out A7 A5 A8 n7 c7 n4 c5 n8 c8 V))) ?_;simp only[X])
   simp only[sS];have w1:∀v∈R++[Value.slice A7 n7 c7,Value.slice A5 n4 c5,Value.slice A8 n8 c8],v.oneCell'=true:=by
    intro v hv;rcases List.mem_append.1 hv with h|h
    ·exact RON.out v h
    ·simp only[List.mem_cons,List.not_mem_nil,or_false]at h;rcases h with rfl|rfl|rfl<;>rfl
   have hfl:(R++[Value.slice A7 n7 c7,Value.slice A5 n4 c5,Value.slice A8 n8 c8]).length=13:=fA;have Q8:=Q2.G HD8 Q2.lt;refine wL 12 none 33 (.tmp 2) (.tmp 56) (by kernel_rfl) I I I (by kernel_rfl) g2 0 I (R++[Value.slice A7 n7 c7,Value.slice A5 n4 c5,Value.slice A8 n8 c8]) I Q8 Y df w1 ?_;intro w9 B9 g9 s9;rw[List.take_zero,List.nil_append,Nat.zero_add]at B9;have B9':=tH B9 Y;have H9:=rE (rC H6 H6.size HD8) g9 (by have:=H6.size;have:=HD8.size;omega) (Nat.le_of_lt h12);have RF:Hid (Jw w0 w9 R (rT ⟨svs,ses,sos,nd,tmo,att,ro,vc,si,ed⟩)):=J (by
    rw[HR.out];exact⟨_,_,_,hR.out,(rJ.G (R':=xH) RO6.out.1 HD8 (fun _ _ h=>h)).sD g9 Q8 K,(rJ.G (R':=Ii w0) RO6.out.2.1 HD8 (fun _ _ h=>h)).sD g9 Q8 K,(rJ.G (R':=Md) RO6.out.2.2 HD8 (fun _ _ h=>h)).sD g9 Q8 K⟩)
   have RH:=J (rJ.G (R':=sG w0 w9) (oh8.out.sD g9 Q8 K) (Below.refl _ _) (fun _ _ x=>x.Ht g9 Q8 K));have RS:=J ((rJ.G (R':=uK) o5 HD8 (fun _ _ h=>h)).sD g9 Q8 K);refine⟨⟨hS.1.grown g9 aB,hS.2.grown g9 aB⟩,?_⟩;simp only[X];refine wpAnyH_done (by kernel_rfl) ?_ _;clear RO6 RON RB HH LV oh8 o5 hS hS8 Q1 Q2 Q3 Q8 HR hR;go_wp2_with fail;refine tx I g2 I B9' _ underlying33 I df I ?_;exact⟨R,_,_,_,I,RF.out,RH.out,by rw[hS4.out];exact RS.out,I,H9⟩
theorem Ea(w0:World)(cs:List Value)(r:Rs)(w:World)(h:Bk w0 w cs r)(hw:ao w0 w):Calls prog 34 #[.agg (cs++[rI,rI,rI]).toArray] w (VE w0 r w):=by
 refine(Gk w0 cs r none none none 0 0 0 [] [] [] w h hw (fun c=>absurd c (Nat.lt_irrefl 0)) (Nat.zero_le _) (fun h hh=>by cases hh) (fun c=>absurd c (Nat.lt_irrefl 0)) (Nat.zero_le _) (fun c=>absurd c (Nat.lt_irrefl 0)) (Nat.zero_le _)).mono ?_;rintro e w' ⟨cs',v1,v2,v3,U,F,_,_,_,h3⟩;exact⟨cs',v1,v2,v3,U,F,h3⟩
theorem Hf(w0:World)(cs:List Value)(r:Rs)(w:World)(h:yc w0 cs r)(hw:ao w0 w):Calls prog 34 #[.agg (cs++[rI,rI,rI]).toArray] w (VE w0 r w):=Ea w0 cs r w (h.XA hw) hw
end Go.Proofs.YtakkipnmpmobbaaGreat
