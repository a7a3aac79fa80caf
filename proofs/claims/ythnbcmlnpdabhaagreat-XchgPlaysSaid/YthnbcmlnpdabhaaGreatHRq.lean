/-
  Records as cells;what is wrong with a record,plainly.
-/
import Derived.Test.YthnbcmlnpdabhaaGreatGCq
import Derived.Test.YthnbcmlnpdabhaaGreatGIq
namespace Go.Proofs.YthnbcmlnpdabhaaGreat
open _root_.Go.Proofs.Tryz
set_option maxHeartbeats 8000000
open Go.RowKit
set_option maxRecDepth 100000
set_option linter.unusedVariables false
variable {n:List (List UInt8)} {A:Option Addr} {c g:Nat} {t:TypeId}
structure RR where
 name:List (List UInt8)
 O:Int
 N:Int
 ak:Int
 ad:vG
 tg:List (List UInt8)
 ml:List (List UInt8)
 pri:Int
 we:Int
 po:Int
 Hh:List Int
 raw:List UInt8
deriving DecidableEq
def vi(l:List Int):List Value:=l.map (Value.int .i64)
def vX(vn vt vm:Value)(r:RR):List Value:=vn:: .int .i64 r.O:: .int .i64 r.N:: .int .i64 r.ak::(r.ad.cells++(vt::vm:: .int .i64 r.pri:: .int .i64 r.we:: .int .i64 r.po::(vi r.Hh++[.string (bs r.raw)])))
def RR.wf(r:RR):Prop:=r.ad.ip.length=16/\r.Hh.length=5
section
variable {vn vt vm:Value} {r:RR}
theorem vA(h:r.wf):(vX vn vt vm r).length=33:=by simp[vX,r.ad.uT h.1,vi,h.2]
theorem aeW:(vX vn vt vm r)[0]?=some vn:=rfl
theorem Lr:(vX vn vt vm r)[1]?=some (.int .i64 r.O):=rfl
theorem Ls:(vX vn vt vm r)[2]?=some (.int .i64 r.N):=rfl
theorem aeX:(vX vn vt vm r)[3]?=some (.int .i64 r.ak):=rfl
theorem CG(h:r.wf):((vX vn vt vm r).drop 4).take 18=r.ad.cells:=by
 simp only[vX,List.drop_succ_cons,List.drop_zero];exact List.take_left' (r.ad.uT h.1)
theorem CI(h:r.wf)(k:Nat):(vX vn vt vm r)[22+k]?=(vt::vm:: .int .i64 r.pri:: .int .i64 r.we:: .int .i64 r.po::(vi r.Hh++[.string (bs r.raw)]))[k]?:=by
 have e:vX vn vt vm r=(vn:: .int .i64 r.O:: .int .i64 r.N:: .int .i64 r.ak::r.ad.cells)++(vt::vm:: .int .i64 r.pri:: .int .i64 r.we:: .int .i64 r.po::(vi r.Hh++[.string (bs r.raw)])):=lT;have hl:(vn:: .int .i64 r.O:: .int .i64 r.N:: .int .i64 r.ak::r.ad.cells).length=22:=jd;rw[e,List.getElem?_append_right I,hl,Nat.add_sub_cancel_left]
theorem BS(h:r.wf):(vX vn vt vm r)[22]?=some vt:=CI h 0
theorem I7(h:r.wf):(vX vn vt vm r)[23]?=some vm:=CI h 1
theorem I8(h:r.wf):(vX vn vt vm r)[24]?=some (.int .i64 r.pri):=CI h 2
theorem I9(h:r.wf):(vX vn vt vm r)[25]?=some (.int .i64 r.we):=CI h 3
theorem Jb(h:r.wf):(vX vn vt vm r)[26]?=some (.int .i64 r.po):=CI h 4
theorem V5(h:r.wf)(i:Nat)(hi:i<5):(vX vn vt vm r)[27+i]?=some (.int .i64 (r.Hh.getD i 0)):=by
 have:=CI (vn:=vn) (vt:=vt) (vm:=vm) h (5+i);rw[show 22+(5+i)=27+i by omega]at this;rw[this,show 5+i=i+1+1+1+1+1 by omega];simp only[List.getElem?_cons_succ];rw[List.getElem?_append_left (by simp[vi,h.2];omega)];simp[vi,List.getD,h.2,hi]
theorem Jc(h:r.wf):(vX vn vt vm r)[32]?=some (.string (bs r.raw)):=by
 have:=CI (vn:=vn) (vt:=vt) (vm:=vm) h 10;rw[this];simp[vi,h.2]
theorem Fh(h:r.wf):((vX vn vt vm r).drop 27).take 5=vi r.Hh:=by
 have e:vX vn vt vm r=(vn:: .int .i64 r.O:: .int .i64 r.N:: .int .i64 r.ak::(r.ad.cells++[vt,vm,.int .i64 r.pri,.int .i64 r.we,.int .i64 r.po]))++(vi r.Hh++[.string (bs r.raw)]):=lT;have hl:(vn:: .int .i64 r.O:: .int .i64 r.N:: .int .i64 r.ak::(r.ad.cells++[vt,vm,.int .i64 r.pri,.int .i64 r.we,.int .i64 r.po])).length=27:=jd;rw[e,<-hl,List.drop_left];exact List.take_left' bd
theorem wR(hn:vn.oneCell'=true)(ht:vt.oneCell'=true)(hm:vm.oneCell'=true):∀v∈vX vn vt vm r,v.oneCell'=true:=by
 intro v hv;simp only[vX,List.mem_cons,List.mem_append]at hv;rcases hv with rfl|rfl|rfl|rfl|hv|rfl|rfl|rfl|rfl|rfl|hv|hv
 ·exact hn
 ·rfl
 ·rfl
 ·rfl
 ·exact r.ad.xW v hv
 ·exact ht
 ·exact hm
 ·rfl
 ·rfl
 ·rfl
 ·exact ug
 ·
  rcases hv with rfl|hv
  ·rfl
  ·cases hv
end
def xJ(w:World)(cs:List Value)(r:RR):Prop:=
 ∃An cn At ct Am cm,cs=vX (.slice An r.name.length cn) (.slice At r.tg.length ct) (.slice Am r.ml.length cm) r/\r.wf/\xE w An cn r.name/\xE w At ct r.tg/\xE w Am cm r.ml/\r.raw.length<=140737488355328
theorem xJ.G{w w':World}{cs:List Value}{r:RR}(h:xJ w cs r)(Z:al w w'):xJ w' cs r:=by
 obtain⟨An,cn,At,ct,Am,cm,U,X,h3,h4,h5,h6⟩:=h;exact⟨An,cn,At,ct,Am,cm,U,X,h3.G Z,h4.G Z,h5.G Z,h6⟩
theorem uU:(prog.info? 119).map (·.size)=some 33:=by kernel_rfl
theorem xf:(prog.info? 117).map (·.size)=some 5:=by kernel_rfl
def uQ(O N:Int):Int:=if N=1/\(O=1\/O=28\/O=5\/O=12\/O=33\/O=6)then O else 0
def yo(most n:Int):Bool:=decide (0<=n)&&decide (n<=most)
def yC(r:RR):Int:=
 if uQ r.O r.N=1 then(if r.ad.check≠0\/r.ad.fam≠4\/r.ad.hk≠0 then 10 else 0)
 else if uQ r.O r.N=28 then(if r.ad.check≠0\/r.ad.fam≠6\/r.ad.hk≠0 then 10 else 0)
 else if uQ r.O r.N=5\/uQ r.O r.N=12 then uE r.tg
 else if uQ r.O r.N=33 then(if([r.pri,r.we,r.po].all (yo 65535))then uE r.tg else 4)
 else if uQ r.O r.N=6 then(if uE r.tg≠0 then uE r.tg else if uE r.ml≠0 then uE r.ml else if r.Hh.all (yo 4294967295)then 0 else 4)
 else if 65535<r.raw.length then 3 else 0
def yc(r:RR):RR:=
 if uQ r.O r.N=1\/uQ r.O r.N=28 then{r with ad:=vG.zero}
 else if uQ r.O r.N=5\/uQ r.O r.N=12 then{r with tg:=[]}
 else if uQ r.O r.N=33 then{r with pri:=0,we:=0,po:=0,tg:=[]}
 else if uQ r.O r.N=6 then{r with tg:=[],ml:=[],Hh:=[0,0,0,0,0]}
 else{r with raw:=[]}
def AU(r:RR):Bool:=decide (r.ad=vG.zero)&&decide (r.tg=[])&&decide (r.ml=[])&&decide (r.pri=0)&&decide (r.we=0)&&decide (r.po=0)&&decide (r.Hh=[0,0,0,0,0])&&decide (r.raw=[])
def uN(r:RR):Int:=
 if uE r.name≠0 then uE r.name
 else if ¬([r.O,r.N].all (yo 65535))\/¬yo 4294967295 r.ak then 4
 else if yC r≠0 then yC r
 else if AU (yc r)then 0 else 5
theorem wB(O N:Int)(w:World):Calls prog 237 #[.int .i64 O,.int .i64 N] w (xX (.int .i64 (uQ O N)) w):=by
 by_cases U:N=1
 ·
  subst U;by_cases z:O=1\/O=28\/O=5\/O=12\/O=33\/O=6
  ·
   have hr:uQ O 1=O:=mi;rw[hr];clear hr;rcases z with rfl|rfl|rfl|rfl|rfl|rfl;all_goals
    go_enter func237,ntmps237;go_wp2;exact pD
  ·have hr:uQ O 1=0:=lP;rw[hr];have e1:(O==1)=false:=aA;have e2:(O==28)=false:=aA;have e3:(O==5)=false:=aA;have e4:(O==12)=false:=aA;have e5:(O==33)=false:=aA;have e6:(O==6)=false:=aA;clear z hr;go_enter func237,ntmps237;go_wp2;exact pD
 ·have hr:uQ O N=0:=lQ;rw[hr];have e1:(N !=1)=true:=iA;clear U hr;go_enter func237,ntmps237;go_wp2;exact pD
theorem vF(O N:Int)(w:World):Calls prog 164 #[.int .i64 O,.int .i64 N] w (xX (.int .i64 (uQ O N)) w):=by
 by_cases U:N=1
 ·
  subst U;by_cases z:O=1\/O=28\/O=5\/O=12\/O=33\/O=6
  ·
   have hr:uQ O 1=O:=mi;rw[hr];clear hr;rcases z with rfl|rfl|rfl|rfl|rfl|rfl;all_goals
    go_enter func164,ntmps164;go_wp2;exact pD
  ·have hr:uQ O 1=0:=lP;rw[hr];have e1:(O==1)=false:=aA;have e2:(O==28)=false:=aA;have e3:(O==5)=false:=aA;have e4:(O==12)=false:=aA;have e5:(O==33)=false:=aA;have e6:(O==6)=false:=aA;clear z hr;go_enter func164,ntmps164;go_wp2;exact pD
 ·have hr:uQ O N=0:=lQ;rw[hr];have e1:(N==1)=false:=iA;clear U hr;go_enter func164,ntmps164;go_wp2;exact pD
theorem V8(m n:Int):yo m n=true↔0<=n/\n<=m:=by simp[yo]
theorem Zq{m n:Int}(h:yo m n=false):n<0\/m<n:=by simp[yo]at h;omega
theorem Dj(m:Int)(A:Option Addr)(c:Nat)(l:List Int)(w:World)(hA:Ir w A l)(hl:l.length<=281474976710656):Calls prog 234 #[.int .i64 m,.slice A l.length c] w (xX (.bool (l.all (yo m))) w):=by
 go_enter func234,ntmps234;go_wp2_with fail;go_loop[9] (fun i=>∃k:Nat,k<=l.length/\i= .int .i64 k/\Hid (∀j (hj:j<l.length),j<k->yo m l[j]=true)) (fun i=>l.length-(intOf i).toNat)
 case atStart=>exact⟨0,Nat.zero_le _,J,Y (fun j hj h=>by omega)⟩
 case round=>
  obtain⟨k,z,rfl,H⟩:=hrel;by_cases aB:k<l.length
  ·
   have h1:(k:Int)<l.length:=I;obtain⟨b,off,rfl,_,xa⟩:=hA I;have c1:=xa k aB;clear xa;cases Z:yo m l[k]with
   |true=>obtain⟨U,X⟩:=(V8 _ _).1 Z;have HB:=Y Z;clear Z;obtain⟨x,hx⟩:∃x,x=l[k]:=gG;rw[<-hx]at c1 U X;clear hx;have d1:decide (x<0)=false:=iz;have d2:decide (m<x)=false:=iz;exact pU
   |false=>
    have hno:l.all (yo m)=false:=by rw[List.all_eq_false];exact⟨l[k],List.getElem_mem aB,aM⟩
    have HN:=Y hno;have h12:=Zq Z;generalize l[k]=x at*;clear Z hno;by_cases U:x<0
    ·have d1:decide (x<0)=true:=ly;exact tO
    ·have d1:decide (x<0)=false:=kW;have X:m<x:=I;have d2:decide (m<x)=true:=decide_eq_true X;clear h12;exact tO
  ·
   have h1:¬(k:Int)<l.length:=I;have asj:l.all (yo m)=true:=by rw[List.all_eq_true];intro x hx;obtain⟨j,hj,rfl⟩:=List.getElem_of_mem hx;exact H.out j hj I
   have HY:=Y asj;clear asj;go_wp2_with fail;go_ret;exact xX.mk (z7 HY.out.symm) J
def zI:List (List (List UInt8))->Int
 |[]=>0
 |n::ls=>if uE n≠0 then uE n else zI ls
theorem Xn{ls:List (List (List UInt8))}(h:∀j (hj:j<ls.length),uE ls[j]=0):zI ls=0:=by
 induction ls with
 |nil=>rfl
 |cons n ls ih=>have h0:=h 0 ap;simp at h0;unfold zI;exact tm
theorem UH{ls:List (List (List UInt8))}{k:Nat}(z:k<ls.length)(h:∀j (hj:j<ls.length),j<k->uE ls[j]=0)(Z:uE ls[k]≠0):zI ls=uE ls[k]:=by
 induction ls generalizing k with
 |nil=>simp at z
 |cons n ls ih=>
  cases k with
  |zero=>simp only[List.getElem_cons_zero]at Z⊢;unfold zI;rw[if_pos Z]
  |succ k=>have h0:=h 0 ap I;simp at h0;unfold zI;exact sx
theorem Hj(A:Option Addr)(c:Nat)(ls:List (List (List UInt8)))(w:World)(hA:Iq w A ls)(hl:ls.length<=281474976710656):Calls prog 247 #[.slice A ls.length c] w (xX (.int .i64 (zI ls)) w):=by
 go_enter func247,ntmps247;go_wp2_with fail;go_loop[8] (fun i=>∃k:Nat,k<=ls.length/\i= .int .i64 k/\Hid (∀j (hj:j<ls.length),j<k->uE ls[j]=0)) (fun i=>ls.length-(intOf i).toNat)
 case atStart=>exact⟨0,Nat.zero_le _,J,Y (fun j hj h=>by omega)⟩
 case round=>
  obtain⟨k,z,rfl,H⟩:=hrel;by_cases aB:k<ls.length
  ·
   have h1:(k:Int)<ls.length:=I;obtain⟨b,off,rfl,_,xa⟩:=hA I;obtain⟨Ai,ci,c1,hR⟩:=xa k aB;have C:=zG Ai ci ls[k] w hR.1 (by have:=hR.2.2.1;omega);clear xa;by_cases h0:uE ls[k]=0
   ·
    rw[h0]at C;have H0:=Y h0;clear h0;go_wp2_with fail;refine C.mono ?_;rintro _ w1 ⟨rfl,rfl⟩;clear C;go_wp2_with fail;go_round
    case rel=>exact⟨k+1,I,gp,Y (fun j hj h=>by
     by_cases e:j=k
     ·subst e;exact H0.out
     ·
      exact H.out j hj I)⟩
    case measure=>simp[intOf];omega
   ·have Z:=Y (UH aB H.out h0);generalize uE ls[k]=e at*;have h0':(e !=0)=true:=kD;clear h0;go_wp2_with fail;refine C.mono ?_;rintro _ w1 ⟨rfl,rfl⟩;clear C;go_wp2_with fail;go_ret;exact xX.mk (yE Z.out.symm) J
  ·have h1:¬(k:Int)<ls.length:=I;have hy:=Y (Xn (fun j hj=>H.out j hj I));go_wp2_with fail;go_ret;exact xX.mk (yE hy.out.symm) J
def adE(a:vG)(f:Int):Int:=if a.check≠0\/a.fam≠f\/a.hk≠0 then 10 else 0
theorem JO(x:vG)(f:Int)(hx:x.ip.length=16)(w:World):Calls prog 246 #[.agg x.cells.toArray,.int .i64 f] w (uI (.int .i64 (adE x f)) w):=by
 have hcl:=x.uT hx;have C:=Y (Dv x hx);have Z:=F.new w 24 x.cells;have hld:((x.cells).drop 0).take 18=x.cells:=by rw[List.drop_zero,List.take_of_length_le I]
 have HL:=Y hld;have c0:x.cells[0]?=some (.int .i64 x.fam):=rfl;have c17:=x.KB hx;clear hld;have he:adE x f=if x.check≠0\/x.fam≠f\/x.hk≠0 then 10 else 0:=rfl
 generalize adE x f=er at*;have HE:=Y he;clear he;obtain⟨ck,hck⟩:∃ck,ck=x.check:=gG;rw[<-hck]at C HE;clear hck;generalize x.fam=fm,x.hk=zn,x.cells=L at*;go_enter func246,ntmps246;go_wp2_with(refine ur (.load 24 (.tmp 2)) J ?_;go_must(refine uu J _ _ J w.heap.size 0 J Z 18 I _ underlying24 J wD L HL.out ?_));go_wp2_with fail;refine(C.out _).mono ?_;rintro _ w1 ⟨rfl,b1⟩;have hb1:=Z.G b1 ap;have hB:=um ((Below.refl _ w).alloc (Nat.le_refl _) (.cells L.toArray 24)) ap b1;have u0:=hb1.M 0 c0;have u17:=hb1.M 17 c17;clear b1 Z hb1 C HL;by_cases U:ck=0
 ·
  have e1:(ck !=0)=false:=iA;by_cases X:fm=f
  ·
   have e2:(fm !=f)=false:=gv;by_cases h3:zn=0
   ·have e3:(zn !=0)=false:=jc;have hr:=HE.out;rw[if_neg bi]at hr;subst hr;clear HE;clear U X h3;exact qL
   ·have e3:(zn !=0)=true:=jc;have hr:=HE.out;rw[if_pos (.inr (.inr h3))]at hr;subst hr;clear HE;clear U X h3;exact qL
  ·have e2:(fm !=f)=true:=gv;have hr:=HE.out;rw[if_pos (.inr (.inl X))]at hr;subst hr;clear HE;clear U X;exact qL
 ·have e1:(ck !=0)=true:=iA;have hr:=HE.out;rw[if_pos (.inl U)]at hr;subst hr;clear HE;clear U;exact qL
set_option linter.unusedSimpArgs false
def uz:Value:=.slice none 0 0
def RR.zero:RR:=⟨[],0,0,0,vG.zero,[],[],0,0,0,[0,0,0,0,0],[]⟩
def wm:List Value:=vX uz uz uz RR.zero
theorem FM:wm.length=33:=vA ⟨J,J⟩
section
variable {vn vt vm:Value} {r:RR}
theorem FP(h:r.wf)(a:vG):(vX vn vt vm r).take 4++a.cells++(vX vn vt vm r).drop 22=vX vn vt vm {r with ad:=a}:=by
 have e:(vX vn vt vm r).drop 22=(vt::vm:: .int .i64 r.pri:: .int .i64 r.we:: .int .i64 r.po::(vi r.Hh++[.string (bs r.raw)])):=by have e2:vX vn vt vm r=(vn:: .int .i64 r.O:: .int .i64 r.N:: .int .i64 r.ak::r.ad.cells)++(vt::vm:: .int .i64 r.pri:: .int .i64 r.we:: .int .i64 r.po::(vi r.Hh++[.string (bs r.raw)])):=lT;have hl:(vn:: .int .i64 r.O:: .int .i64 r.N:: .int .i64 r.ak::r.ad.cells).length=22:=jd;rw[e2,<-hl,List.drop_left]
 rw[e];simp[vX]
end
theorem Fi{L sub:List Value}(h:L.length=sub.length):L.take 0++sub++L.drop (0+sub.length)=sub:=by
 rw[List.take_zero,List.nil_append,Nat.zero_add,List.drop_of_length_le I,List.append_nil]
theorem vG.Zr:vG.zero.cells.length=18:=vG.zero.uT J
theorem aeY(vn vt vm:Value)(r:RR)(hr:r.wf)(hn:vn.oneCell'=true)(ht:vt.oneCell'=true)(hm:vm.oneCell'=true)(w:World)(z:uQ r.O r.N=1):
  Calls prog 235 #[.agg (vX vn vt vm r).toArray] w (uI (.tuple #[.agg (vX vn vt vm {r with ad:=vG.zero}).toArray,.int .i64 (adE r.ad 4)]) w):=by
 have hl:=vA (vn:=vn) (vt:=vt) (vm:=vm) hr;have L1?:=Lr (vn:=vn) (vt:=vt) (vm:=vm) (r:=r);have L2?:=Ls (vn:=vn) (vt:=vt) (vm:=vm) (r:=r);have LA:=Y (CG (vn:=vn) (vt:=vt) (vm:=vm) hr);have LS:=Y (FP (vn:=vn) (vt:=vt) (vm:=vm) hr vG.zero);have L1c:=Y (wR (r:=r) hn ht hm);have L4c:=Y (wR (r:={r with ad:=vG.zero}) hn ht hm);have L4l:=vA (vn:=vn) (vt:=vt) (vm:=vm) (r:={r with ad:=vG.zero}) ⟨J,hr.2⟩;have hb:=Y (fun w=>wB r.O r.N w);rw[z]at hb;have AD:=Y (JO r.ad 4 hr.1);generalize vX vn vt vm {r with ad:=vG.zero}=L4 at*;generalize vX vn vt vm r=L at*;generalize adE r.ad 4=e at*;generalize r.ad.cells=LAd,r.O=O,r.N=N at*;clear z;have B0:=F.new w 119 L;go_enter func235,ntmps235;go_wp2_with(first
  |(refine ur (.load 119 (.tmp 1)) rfl ?_;go_must(refine uu rfl _ _ rfl w.heap.size 0 rfl (F.alloc (F.new w 119 L) _) 33 I _ underlying119 rfl uU L (wP I) ?_))
  |(refine ur (.store 119 (.tmp 4) (.tmp 6)) rfl (ab rfl (w.heap.size+1+1) 0 L (F.wE _ _ wm _ ap) bj bm L1c.out ?_)))
 intro w3 hb3 hg3 hs3;have B1:F w3 w.heap.size 119 L:=iC;have B2:F w3 (w.heap.size+1) 119 wm:=ik;have B4:F w3 (w.heap.size+1+1) 119 L:=gQ;have HB:al w w3:=gK;clear hb3 hg3 B0;have u1:=B1.M 1 L1?;have u2:=B1.M 2 L2?;clear L1? L2?;go_wp2_with fail;refine(hb.out _).mono ?_;rintro _ w4 ⟨rfl,rfl⟩;clear hb u1 u2;go_wp2_with(refine ur (.store 24 (.tmp 15) (.tmp 14)) J (ab J (w.heap.size+1+1) 4 vG.zero.cells B4 (by rw[hl];decide) wD (vG.xW _) ?_));intro w4 hb4 hg4 hs4;have B1':=B1.grown hg4 aA;have B2':=B2.grown hg4 ap;have B4':F w4 (w.heap.size+1+1) 119 L4:=jH;have HB':al w w4:=uq HB hg4 HB.size I;clear hb4 hg4 B1 B2 B4 HB;go_wp2_with fail;refine wp_region_held_drew (S:=fun w'=>F w' w.heap.size 119 L/\F w' (w.heap.size+1+1) 119 L4) (by kernel_rfl) ⟨B1',B4'⟩ (fun K=>?_);refine vK 0 (some 16) 119 (.tmp 4) ⟨w.heap.size+1+1,0,none⟩ J J J J (by kernel_rfl) (by kernel_rfl) (by kernel_rfl) (fun _ _ _ h=>h) J (fun W hW=>hW.2.wS 119 0 33 I _ underlying119 J uU L4 (wP I)) K ?_;simp only[E]
 (refine ag 1 (some 17) J J (by kernel_rfl) (fun W hW=>rfl) K ?_;simp only[E])
 refine vK 2 (some 18) 24 (.tmp 17) ⟨w.heap.size,4,none⟩ J J J J (by kernel_rfl) (by kernel_rfl) (by kernel_rfl) (fun _ _ _ h=>h) (by kernel_rfl) (fun W hW=>hW.1.wS 24 4 18 I _ underlying24 J wD LAd LA.out) K ?_;simp only[E];refine vx 3 (some 19) 246 #[.agg LAd.toArray,.int .i64 4] (by kernel_rfl) J J (by kernel_rfl) bp (AD.out _) ?_;rintro _ w5 ⟨rfl,b5⟩;have ahX:=K.1.G b5 K.1.lt;have ahW:=K.2.G b5 K.2.lt;have aiy:=B2'.drew.G b5 B2'.drew.lt;have ajd:al w w5:=lM;refine⟨_,J,⟨ahX,ahW⟩,?_⟩;clear K B1' B4' B2' HB' b5;simp only[E];refine wu 4 none 119 (.tmp 2) (.tmp 16) (by kernel_rfl) J J J (by kernel_rfl) (w.heap.size+1) 0 J L4 J aiy bj bu L4c.out ?_;intro w6 hb6 hg6 hs6;rw[Fi bj]at hb6;have HB6:al w w6:=ju;have K:F w6 w.heap.size 119 L/\F w6 (w.heap.size+1+1) 119 L4:=iW;refine⟨K,?_⟩;clear ahX ahW aiy ajd hg6;simp only[E]
 (refine ag 5 (some 3) J J (by kernel_rfl) (fun W hW=>rfl) K ?_;simp only[E])
 refine wpAnyH_done (by kernel_rfl) ?_ _;exact pO
theorem adP(vn vt vm:Value)(r:RR)(hr:r.wf)(hn:vn.oneCell'=true)(ht:vt.oneCell'=true)(hm:vm.oneCell'=true)(w:World)(z:uQ r.O r.N=28):
  Calls prog 235 #[.agg (vX vn vt vm r).toArray] w (uI (.tuple #[.agg (vX vn vt vm {r with ad:=vG.zero}).toArray,.int .i64 (adE r.ad 6)]) w):=by
 have hl:=vA (vn:=vn) (vt:=vt) (vm:=vm) hr;have L1?:=Lr (vn:=vn) (vt:=vt) (vm:=vm) (r:=r);have L2?:=Ls (vn:=vn) (vt:=vt) (vm:=vm) (r:=r);have LA:=Y (CG (vn:=vn) (vt:=vt) (vm:=vm) hr);have LS:=Y (FP (vn:=vn) (vt:=vt) (vm:=vm) hr vG.zero);have L1c:=Y (wR (r:=r) hn ht hm);have L4c:=Y (wR (r:={r with ad:=vG.zero}) hn ht hm);have L4l:=vA (vn:=vn) (vt:=vt) (vm:=vm) (r:={r with ad:=vG.zero}) ⟨J,hr.2⟩;have hb:=Y (fun w=>wB r.O r.N w);rw[z]at hb;have AD:=Y (JO r.ad 6 hr.1);generalize vX vn vt vm {r with ad:=vG.zero}=L4 at*;generalize vX vn vt vm r=L at*;generalize adE r.ad 6=e at*;generalize r.ad.cells=LAd,r.O=O,r.N=N at*;clear z;have B0:=F.new w 119 L;go_enter func235,ntmps235;go_wp2_with(first
  |(refine ur (.load 119 (.tmp 1)) rfl ?_;go_must(refine uu rfl _ _ rfl w.heap.size 0 rfl (F.alloc (F.new w 119 L) _) 33 I _ underlying119 rfl uU L (wP I) ?_))
  |(refine ur (.store 119 (.tmp 4) (.tmp 6)) rfl (ab rfl (w.heap.size+1+1) 0 L (F.wE _ _ wm _ ap) bj bm L1c.out ?_)))
 intro w3 hb3 hg3 hs3;have B1:F w3 w.heap.size 119 L:=iC;have B2:F w3 (w.heap.size+1) 119 wm:=ik;have B4:F w3 (w.heap.size+1+1) 119 L:=gQ;have HB:al w w3:=gK;clear hb3 hg3 B0;have u1:=B1.M 1 L1?;have u2:=B1.M 2 L2?;clear L1? L2?;go_wp2_with fail;refine(hb.out _).mono ?_;rintro _ w4 ⟨rfl,rfl⟩;clear hb u1 u2;go_wp2_with(refine ur (.store 24 (.tmp 23) (.tmp 22)) J (ab J (w.heap.size+1+1) 4 vG.zero.cells B4 (by rw[hl];decide) wD (vG.xW _) ?_));intro w4 hb4 hg4 hs4;have B1':=B1.grown hg4 aA;have B2':=B2.grown hg4 ap;have B4':F w4 (w.heap.size+1+1) 119 L4:=jH;have HB':al w w4:=uq HB hg4 HB.size I;clear hb4 hg4 B1 B2 B4 HB;go_wp2_with fail;refine wp_region_held_drew (S:=fun w'=>F w' w.heap.size 119 L/\F w' (w.heap.size+1+1) 119 L4) (by kernel_rfl) ⟨B1',B4'⟩ (fun K=>?_);refine vK 0 (some 24) 119 (.tmp 4) ⟨w.heap.size+1+1,0,none⟩ J J J J (by kernel_rfl) (by kernel_rfl) (by kernel_rfl) (fun _ _ _ h=>h) J (fun W hW=>hW.2.wS 119 0 33 I _ underlying119 J uU L4 (wP I)) K ?_;simp only[E]
 (refine ag 1 (some 25) J J (by kernel_rfl) (fun W hW=>rfl) K ?_;simp only[E])
 refine vK 2 (some 26) 24 (.tmp 25) ⟨w.heap.size,4,none⟩ J J J J (by kernel_rfl) (by kernel_rfl) (by kernel_rfl) (fun _ _ _ h=>h) (by kernel_rfl) (fun W hW=>hW.1.wS 24 4 18 I _ underlying24 J wD LAd LA.out) K ?_;simp only[E];refine vx 3 (some 27) 246 #[.agg LAd.toArray,.int .i64 6] (by kernel_rfl) J J (by kernel_rfl) bp (AD.out _) ?_;rintro _ w5 ⟨rfl,b5⟩;have ahX:=K.1.G b5 K.1.lt;have ahW:=K.2.G b5 K.2.lt;have aiy:=B2'.drew.G b5 B2'.drew.lt;have ajd:al w w5:=lM;refine⟨_,J,⟨ahX,ahW⟩,?_⟩;clear K B1' B4' B2' HB' b5;simp only[E];refine wu 4 none 119 (.tmp 2) (.tmp 24) (by kernel_rfl) J J J (by kernel_rfl) (w.heap.size+1) 0 J L4 J aiy bj bu L4c.out ?_;intro w6 hb6 hg6 hs6;rw[Fi bj]at hb6;have HB6:al w w6:=ju;have K:F w6 w.heap.size 119 L/\F w6 (w.heap.size+1+1) 119 L4:=iW;refine⟨K,?_⟩;clear ahX ahW aiy ajd hg6;simp only[E]
 (refine ag 5 (some 3) J J (by kernel_rfl) (fun W hW=>rfl) K ?_;simp only[E])
 refine wpAnyH_done (by kernel_rfl) ?_ _;exact pO
section
variable {vn vt vm:Value} {r:RR}
theorem DO(h:r.wf)(k:Nat)(v:Value):(vX vn vt vm r).set (22+k) v=(vn:: .int .i64 r.O:: .int .i64 r.N:: .int .i64 r.ak::r.ad.cells)++(vt::vm:: .int .i64 r.pri:: .int .i64 r.we:: .int .i64 r.po::(vi r.Hh++[.string (bs r.raw)])).set k v:=by
 have e2:vX vn vt vm r=(vn:: .int .i64 r.O:: .int .i64 r.N:: .int .i64 r.ak::r.ad.cells)++(vt::vm:: .int .i64 r.pri:: .int .i64 r.we:: .int .i64 r.po::(vi r.Hh++[.string (bs r.raw)])):=lT;have hl:(vn:: .int .i64 r.O:: .int .i64 r.N:: .int .i64 r.ak::r.ad.cells).length=22:=jd;rw[e2,List.set_append_right _ _ I,hl,Nat.add_sub_cancel_left]
theorem Cn(h:r.wf)(v:Value):(vX vn vt vm r).set 22 v=vX vn v vm r:=by rw[DO h 0];simp[vX]
theorem N7(h:r.wf)(v:Value):(vX vn vt vm r).set 23 v=vX vn vt v r:=by rw[DO h 1];simp[vX]
theorem Lu(h:r.wf)(x:Int):(vX vn vt vm r).set 24 (.int .i64 x)=vX vn vt vm {r with pri:=x}:=by rw[DO h 2];simp[vX]
theorem Oa(h:r.wf)(x:Int):(vX vn vt vm r).set 25 (.int .i64 x)=vX vn vt vm {r with we:=x}:=by rw[DO h 3];simp[vX]
theorem Ob(h:r.wf)(x:Int):(vX vn vt vm r).set 26 (.int .i64 x)=vX vn vt vm {r with po:=x}:=by rw[DO h 4];simp[vX]
theorem Lv(h:r.wf)(x:List UInt8):(vX vn vt vm r).set 32 (.string (bs x))=vX vn vt vm {r with raw:=x}:=by
 rw[DO h 10];have e:(vi r.Hh++[Value.string (bs r.raw)]).set 5 (.string (bs x))=vi r.Hh++[.string (bs x)]:=by rw[List.set_append_right _ _ bd];simp[vi,h.2]
 simp[vX,e]
theorem JP(h:r.wf)(l:List Int)(hl:l.length=5):(vX vn vt vm r).take 27++vi l++(vX vn vt vm r).drop 32=vX vn vt vm {r with Hh:=l}:=by
 have e:vX vn vt vm r=(vn:: .int .i64 r.O:: .int .i64 r.N:: .int .i64 r.ak::(r.ad.cells++[vt,vm,.int .i64 r.pri,.int .i64 r.we,.int .i64 r.po]))++(vi r.Hh++[.string (bs r.raw)]):=lT;have hl:(vn:: .int .i64 r.O:: .int .i64 r.N:: .int .i64 r.ak::(r.ad.cells++[vt,vm,.int .i64 r.pri,.int .i64 r.we,.int .i64 r.po])).length=27:=jd;have e1:(vX vn vt vm r).take 27=(vn:: .int .i64 r.O:: .int .i64 r.N:: .int .i64 r.ak::(r.ad.cells++[vt,vm,.int .i64 r.pri,.int .i64 r.we,.int .i64 r.po])):=by rw[e,<-hl,List.take_left]
 have e2:(vX vn vt vm r).drop 32=[.string (bs r.raw)]:=by rw[e,show 32=27+5 from J,<-List.drop_drop,<-hl,List.drop_left];exact List.drop_left' bd
 rw[e1,e2];simp[vX]
end
theorem Lw(n:List (List UInt8)):zI [n]=uE n:=by simp only[zI];split<;>simp_all
theorem Iq.aeZ{w:World}(h:xE w A c n)(k:Nat)(z:k=w.heap.size)(t:TypeId):Iq (w.alloc (.cells #[.slice A n.length c] t)) (some ⟨k,0,none⟩) [n]:=by
 intro _;subst z;refine⟨_,0,J,ap,fun i hi=>?_⟩;have hi0:i=0:=by simp at hi;exact hi
 subst hi0;exact⟨A,c,(F.new w t [.slice A n.length c]).M 0 J,h.G ((Below.refl _ _).alloc (Nat.le_refl _) _)⟩
theorem Iq.afF{w:World}{B:Option Addr}{d:Nat}{m:List (List UInt8)}(h:xE w A c n)(X:xE w B d m)(k:Nat)(z:k=w.heap.size)(t:TypeId):Iq (w.alloc (.cells #[.slice A n.length c,.slice B m.length d] t)) (some ⟨k,0,none⟩) [n,m]:=by
 intro _;subst z;refine⟨_,0,J,ap,fun i hi=>?_⟩;have Z:=(Below.refl w.heap.size w).alloc (Nat.le_refl _) (.cells #[.slice A n.length c,.slice B m.length d] t);have hb1:=F.new w t [.slice A n.length c,.slice B m.length d];have hi0:i=0\/i=1:=by simp at hi;omega
 rcases hi0 with rfl|rfl
 ·exact⟨A,c,hb1.M 0 J,h.G Z⟩
 ·exact⟨B,d,hb1.M 1 J,X.G Z⟩
theorem ae0(vn vm:Value)(At:Option Addr)(ct:Nat)(r:RR)(hr:r.wf)(hn:vn.oneCell'=true)(hm:vm.oneCell'=true)(w:World)(hT:xE w At ct r.tg)(z:uQ r.O r.N=5\/uQ r.O r.N=12):
  Calls prog 235 #[.agg (vX vn (.slice At r.tg.length ct) vm r).toArray] w (uI (.tuple #[.agg (vX vn uz vm {r with tg:=[]}).toArray,.int .i64 (uE r.tg)]) w):=by
 obtain⟨vt,hvt⟩:∃v,v=Value.slice At r.tg.length ct:=gG;have ht:vt.oneCell'=true:=oj;rw[<-hvt];have hl:=vA (vn:=vn) (vt:=vt) (vm:=vm) hr;have L1?:=Lr (vn:=vn) (vt:=vt) (vm:=vm) (r:=r);have L2?:=Ls (vn:=vn) (vt:=vt) (vm:=vm) (r:=r);have L22:=BS (vn:=vn) (vt:=vt) (vm:=vm) hr;have LS:=Y (Cn (vn:=vn) (vt:=vt) (vm:=vm) hr uz);have L1c:=Y (wR (r:=r) hn ht hm);have L4c:=Y (wR (vt:=uz) (r:={r with tg:=[]}) hn J hm);have L4l:=vA (vn:=vn) (vt:=uz) (vm:=vm) (r:={r with tg:=[]}) hr;have hb:=Y (fun w=>wB r.O r.N w);have aeH:=Y (Lw r.tg);change Hid (_=vX vn uz vm {r with tg:=[]})at LS;generalize vX vn uz vm {r with tg:=[]}=L4 at*;generalize vX vn vt vm r=L at*;generalize uE r.tg=e at*;generalize uQ r.O r.N=k at*;generalize r.O=O,r.N=N at*;rcases z with rfl|rfl;all_goals
  have B0:=F.new w 119 L;go_enter func235,ntmps235;go_wp2_with(first
   |(refine ur (.load 119 (.tmp 1)) rfl ?_;go_must(refine uu rfl _ _ rfl w.heap.size 0 rfl (F.alloc (F.new w 119 L) _) 33 I _ underlying119 rfl uU L (wP I) ?_))
   |(refine ur (.store 119 (.tmp 4) (.tmp 6)) rfl (ab rfl (w.heap.size+1+1) 0 L (F.wE _ _ wm _ ap) bj bm L1c.out ?_)))
  intro w3 hb3 hg3 hs3;have B1:F w3 w.heap.size 119 L:=iC;have B2:F w3 (w.heap.size+1) 119 wm:=ik;have B4:F w3 (w.heap.size+1+1) 119 L:=gQ;have HB:al w w3:=gK;clear hb3 hg3 B0;have u1:=B1.M 1 L1?;have u2:=B1.M 2 L2?;clear L1? L2?;go_wp2_with fail;refine(hb.out _).mono ?_;rintro _ w4 ⟨rfl,rfl⟩;clear hb u1 u2;have u22:=B4.M 22 L22;have f22:=B4.frozen 22;go_wp2_with fail;have B4':=B4.set 22 uz;rw[LS.out]at B4';have B1':=B1.y7 (p:=⟨w.heap.size+1+1,22,none⟩) aA uz;have B2':=B2.y7 (p:=⟨w.heap.size+1+1,22,none⟩) ap uz;have HB':Below w.heap.size w (w3.setCell ⟨w.heap.size+1+1,22,none⟩ uz):=HB.setCell aA _;have hs4:(w3.setCell ⟨w.heap.size+1+1,22,none⟩ uz).heap.size=w.heap.size+1+1+1:=nf;change Code.wp _ _ _ _ (w3.setCell ⟨w.heap.size+1+1,22,none⟩ uz);generalize w3.setCell ⟨w.heap.size+1+1,22,none⟩ uz=w4 at*;clear B1 B2 B4 HB f22 hs3 LS;refine wp_region_held_drew (S:=fun w'=>F w' w.heap.size 119 L/\F w' (w.heap.size+1+1) 119 L4) (by kernel_rfl) ⟨B1',B4'⟩ (fun K=>?_);refine vK 0 (some 32) 119 (.tmp 4) ⟨w.heap.size+1+1,0,none⟩ J J J J (by kernel_rfl) (by kernel_rfl) (by kernel_rfl) (fun _ _ _ h=>h) J (fun W hW=>hW.2.wS 119 0 33 I _ underlying119 J uU L4 (wP I)) K ?_;simp only[E]
  (refine ag 1 (some 33) J J (by kernel_rfl) (fun W hW=>rfl) K ?_;simp only[E])
  refine vK 2 (some 34) 26 (.tmp 33) ⟨w.heap.size,22,none⟩ J J J J (by kernel_rfl) (by kernel_rfl) (by kernel_rfl) (fun _ _ _ h=>h) (by kernel_rfl) (fun W hW=>uB underlying26 J (hW.1.M 22 L22)) K ?_;simp only[E];have HB5:Below w.heap.size w w4.drew:=below_drewN HB' 1;refine zz 3 (some 35) (by kernel_rfl) J J (by kernel_rfl) (v:=.slice (some ⟨w4.drew.heap.size,0,none⟩) 1 1) (w':=w4.drew.alloc (.cells #[vt] 26)) bp ⟨K.1.alloc _,K.2.alloc _⟩ ?_;simp only[E];have AN:=Hj (some ⟨w4.drew.heap.size,0,none⟩) 1 [r.tg] _ (hvt▸Iq.aeZ (hT.G HB5) w4.drew.heap.size J 26) ap;rw[aeH.out]at AN;refine vx 4 (some 36) 247 #[.slice (some ⟨w4.drew.heap.size,0,none⟩) 1 1] (by kernel_rfl) J J (by kernel_rfl) bp AN ?_;rintro _ w5 ⟨rfl,b5⟩;have ajd:al w w5:=b5▸HB5.alloc HB5.size _;have ahX:F w5 w.heap.size 119 L:=b5▸K.1.alloc _;have ahW:F w5 (w.heap.size+1+1) 119 L4:=b5▸K.2.alloc _;have aiy:F w5 (w.heap.size+1) 119 wm:=b5▸B2'.drew.alloc _;refine⟨_,J,⟨ahX,ahW⟩,?_⟩;clear K B1' B4' B2' HB' HB5 b5 AN;simp only[E];refine wu 5 none 119 (.tmp 2) (.tmp 32) (by kernel_rfl) J J J (by kernel_rfl) (w.heap.size+1) 0 J L4 J aiy bj bu L4c.out ?_;intro w6 hb6 hg6 hs6;rw[Fi bj]at hb6;have HB6:al w w6:=ju;have K:F w6 w.heap.size 119 L/\F w6 (w.heap.size+1+1) 119 L4:=iW;refine⟨K,?_⟩;clear ahX ahW aiy ajd hg6;simp only[E]
  (refine ag 6 (some 3) J J (by kernel_rfl) (fun W hW=>rfl) K ?_;simp only[E])
  refine wpAnyH_done (by kernel_rfl) ?_ _;exact pO
theorem Ir.new{w:World}(l:List Int)(k:Nat)(z:k=w.heap.size)(t:TypeId):Ir (w.alloc (.cells (vi l).toArray t)) (some ⟨k,0,none⟩) l:=by
 intro _;subst z;refine⟨_,0,J,ap,fun i hi=>?_⟩;rw[Nat.zero_add];exact(F.new w t (vi l)).M i (by simp[vi,hi])
theorem Ir.at{w:World}{L:List Value}{l:List Int}(h:F w g t L)(o:Nat)(hl:(L.drop o).take l.length=vi l):Ir w (some ⟨g,o,none⟩) l:=by
 intro _;refine⟨_,o,J,h.lt,fun i hi=>?_⟩;refine h.M (o+i) ?_;have U:((L.drop o).take l.length)[i]?=some (.int .i64 l[i]):=by rw[hl];simp[vi,hi]
 rw[List.getElem?_take_of_lt hi,List.getElem?_drop]at U;exact U
theorem rrS{w:World}{L L':List Value}{i:Nat}{v:Value}(h:F w g t L)(he:L.set i v=L'):F (w.setCell ⟨g,i,none⟩ v) g t L':=he▸h.set i v
theorem adQ(vn vm:Value)(At:Option Addr)(ct:Nat)(r:RR)(hr:r.wf)(hn:vn.oneCell'=true)(hm:vm.oneCell'=true)(w:World)(hT:xE w At ct r.tg)(z:uQ r.O r.N=33):
  Calls prog 235 #[.agg (vX vn (.slice At r.tg.length ct) vm r).toArray] w (uI (.tuple #[.agg (vX vn uz vm {r with pri:=0,we:=0,po:=0,tg:=[]}).toArray,.int .i64 (if[r.pri,r.we,r.po].all (yo 65535)then uE r.tg else 4)]) w):=by
 obtain⟨vt,hvt⟩:∃v,v=Value.slice At r.tg.length ct:=gG;have ht:vt.oneCell'=true:=oj;rw[<-hvt];have hl:=vA (vn:=vn) (vt:=vt) (vm:=vm) hr;have L1?:=Lr (vn:=vn) (vt:=vt) (vm:=vm) (r:=r);have L2?:=Ls (vn:=vn) (vt:=vt) (vm:=vm) (r:=r);have L22:=BS (vn:=vn) (vt:=vt) (vm:=vm) hr;have L24:=I8 (vn:=vn) (vt:=vt) (vm:=vm) hr;have L25:=I9 (vn:=vn) (vt:=vt) (vm:=vm) hr;have L26:=Jb (vn:=vn) (vt:=vt) (vm:=vm) hr;have LS:Hid (((((vX vn vt vm r).set 24 (.int .i64 0)).set 25 (.int .i64 0)).set 26 (.int .i64 0)).set 22 uz=vX vn uz vm {r with pri:=0,we:=0,po:=0,tg:=[]}):=Y (by
  rw[Lu hr,Oa (r:={r with pri:=0}) hr,Ob (r:={r with pri:=0,we:=0}) hr,Cn (r:={r with pri:=0,we:=0,po:=0}) hr];rfl)
 have L1c:=Y (wR (r:=r) hn ht hm);have L4c:=Y (wR (vt:=uz) (r:={r with pri:=0,we:=0,po:=0,tg:=[]}) hn J hm);have L4l:=vA (vn:=vn) (vt:=uz) (vm:=vm) (r:={r with pri:=0,we:=0,po:=0,tg:=[]}) hr;have hb:=Y (fun w=>wB r.O r.N w);rw[z]at hb;have aeH:=Y (Lw r.tg);have WI:=Y (fun w A h=>Dj 65535 A 3 [r.pri,r.we,r.po] w h ap);generalize vX vn uz vm {r with pri:=0,we:=0,po:=0,tg:=[]}=L4 at*;generalize vX vn vt vm r=L at*;generalize uE r.tg=e at*;generalize hB3:[r.pri,r.we,r.po].all (yo 65535)=b3 at*;generalize r.pri=n1,r.we=n2,r.po=n3 at*;clear hB3;generalize r.O=O,r.N=N at*;clear z;generalize ajv:(if b3=true then e else 4)=res;have agI:=Y ajv;clear ajv;have B0:=F.new w 119 L;go_enter func235,ntmps235;go_wp2_with(first
  |(refine ur (.load 119 (.tmp 1)) rfl ?_;go_must(refine uu rfl _ _ rfl w.heap.size 0 rfl (F.alloc (F.new w 119 L) _) 33 I _ underlying119 rfl uU L (wP I) ?_))
  |(refine ur (.store 119 (.tmp 4) (.tmp 6)) rfl (ab rfl (w.heap.size+1+1) 0 L (F.wE _ _ wm _ ap) bj bm L1c.out ?_)))
 intro w3 hb3 hg3 hs3;have B1:F w3 w.heap.size 119 L:=iC;have B2:F w3 (w.heap.size+1) 119 wm:=ik;have B4:F w3 (w.heap.size+1+1) 119 L:=gQ;have HB:al w w3:=gK;clear hb3 hg3 B0;have u1:=B1.M 1 L1?;have u2:=B1.M 2 L2?;clear L1? L2?;go_wp2_with fail;refine(hb.out _).mono ?_;rintro _ w4 ⟨rfl,rfl⟩;clear hb u1 u2;have u22:=B4.M 22 L22;have u24:=B4.M 24 L24;have u25:=B4.M 25 L25;have u26:=B4.M 26 L26;have v24:=B1.M 24 L24;have v25:=B1.M 25 L25;have v26:=B1.M 26 L26;have f22:=B4.frozen 22;have f24:=B4.frozen 24;have f25:=B4.frozen 25;have f26:=B4.frozen 26;go_wp2_with fail;have B4s:=rrS (((B4.set 24 (.int .i64 0)).set 25 (.int .i64 0)).set 26 (.int .i64 0)) LS.out;have hne:w.heap.size≠w.heap.size+1+1:=I;have aiX:w.heap.size+1≠w.heap.size+1+1:=I;have B1s:=(((B1.y7 (p:=⟨w.heap.size+1+1,24,none⟩) hne (.int .i64 0)).y7 (p:=⟨w.heap.size+1+1,25,none⟩) hne (.int .i64 0)).y7 (p:=⟨w.heap.size+1+1,26,none⟩) hne (.int .i64 0)).y7 (p:=⟨w.heap.size+1+1,22,none⟩) hne uz;have B2s:=(((B2.y7 (p:=⟨w.heap.size+1+1,24,none⟩) aiX (.int .i64 0)).y7 (p:=⟨w.heap.size+1+1,25,none⟩) aiX (.int .i64 0)).y7 (p:=⟨w.heap.size+1+1,26,none⟩) aiX (.int .i64 0)).y7 (p:=⟨w.heap.size+1+1,22,none⟩) aiX uz;have HBs:=(((HB.setCell (p:=⟨w.heap.size+1+1,24,none⟩) aA (.int .i64 0)).setCell (p:=⟨w.heap.size+1+1,25,none⟩) aA (.int .i64 0)).setCell (p:=⟨w.heap.size+1+1,26,none⟩) aA (.int .i64 0)).setCell (p:=⟨w.heap.size+1+1,22,none⟩) aA uz;have hss:((((w3.setCell ⟨w.heap.size+1+1,24,none⟩ (.int .i64 0)).setCell ⟨w.heap.size+1+1,25,none⟩ (.int .i64 0)).setCell ⟨w.heap.size+1+1,26,none⟩ (.int .i64 0)).setCell ⟨w.heap.size+1+1,22,none⟩ uz).heap.size=w.heap.size+1+1+1:=nf;change Calls _ _ _ (World.alloc ((((w3.setCell ⟨w.heap.size+1+1,24,none⟩ (.int .i64 0)).setCell ⟨w.heap.size+1+1,25,none⟩ (.int .i64 0)).setCell ⟨w.heap.size+1+1,26,none⟩ (.int .i64 0)).setCell ⟨w.heap.size+1+1,22,none⟩ uz) _) _;generalize(((w3.setCell ⟨w.heap.size+1+1,24,none⟩ (.int .i64 0)).setCell ⟨w.heap.size+1+1,25,none⟩ (.int .i64 0)).setCell ⟨w.heap.size+1+1,26,none⟩ (.int .i64 0)).setCell ⟨w.heap.size+1+1,22,none⟩ uz=w7 at*;clear B1 B2 B4 HB f22 f24 f25 f26 v24 v25 v26 LS hs3 L24 L25 L26;refine(WI.out _ _ (Ir.new [n1,n2,n3] _ hss.symm 3)).mono ?_;rintro _ w8 ⟨rfl,rfl⟩;clear WI;have B1':=B1s.alloc (.cells (vi [n1,n2,n3]).toArray 3);have B2':=B2s.alloc (.cells (vi [n1,n2,n3]).toArray 3);have B4':=B4s.alloc (.cells (vi [n1,n2,n3]).toArray 3);have HB':=HBs.alloc HBs.size (.cells (vi [n1,n2,n3]).toArray 3);have hs4:(w7.alloc (.cells (vi [n1,n2,n3]).toArray 3)).heap.size=w.heap.size+1+1+1+1:=by simpa using hss
 generalize w7.alloc (.cells (vi [n1,n2,n3]).toArray 3)=w4 at*;clear B1s B2s B4s HBs hss;cases b3 with
 |true=>
  have hr1:e=res:=by simpa using agI.out
  subst hr1;clear agI;go_wp2_with fail;refine wp_region_held_drew (S:=fun w'=>F w' w.heap.size 119 L/\F w' (w.heap.size+1+1) 119 L4) (by kernel_rfl) ⟨B1',B4'⟩ (fun K=>?_);refine vK 0 (some 53) 119 (.tmp 4) ⟨w.heap.size+1+1,0,none⟩ J J J J (by kernel_rfl) (by kernel_rfl) (by kernel_rfl) (fun _ _ _ h=>h) J (fun W hW=>hW.2.wS 119 0 33 I _ underlying119 J uU L4 (wP I)) K ?_;simp only[E]
  (refine ag 1 (some 54) J J (by kernel_rfl) (fun W hW=>rfl) K ?_;simp only[E])
  refine vK 2 (some 55) 26 (.tmp 54) ⟨w.heap.size,22,none⟩ J J J J (by kernel_rfl) (by kernel_rfl) (by kernel_rfl) (fun _ _ _ h=>h) (by kernel_rfl) (fun W hW=>uB underlying26 J (hW.1.M 22 L22)) K ?_;simp only[E];have HB5:Below w.heap.size w w4.drew:=below_drewN HB' 1;refine zz 3 (some 56) (by kernel_rfl) J J (by kernel_rfl) (v:=.slice (some ⟨w4.drew.heap.size,0,none⟩) 1 1) (w':=w4.drew.alloc (.cells #[vt] 26)) bp ⟨K.1.alloc _,K.2.alloc _⟩ ?_;simp only[E];have AN:=Hj (some ⟨w4.drew.heap.size,0,none⟩) 1 [r.tg] _ (hvt▸Iq.aeZ (hT.G HB5) w4.drew.heap.size J 26) ap;rw[aeH.out]at AN;refine vx 4 (some 57) 247 #[.slice (some ⟨w4.drew.heap.size,0,none⟩) 1 1] (by kernel_rfl) J J (by kernel_rfl) bp AN ?_;rintro _ w5 ⟨rfl,b5⟩;have ajd:al w w5:=b5▸HB5.alloc HB5.size _;have ahX:F w5 w.heap.size 119 L:=b5▸K.1.alloc _;have ahW:F w5 (w.heap.size+1+1) 119 L4:=b5▸K.2.alloc _;have aiy:F w5 (w.heap.size+1) 119 wm:=b5▸B2'.drew.alloc _;refine⟨_,J,⟨ahX,ahW⟩,?_⟩;clear K B1' B4' B2' HB' HB5 b5 AN;simp only[E];refine wu 5 none 119 (.tmp 2) (.tmp 53) (by kernel_rfl) J J J (by kernel_rfl) (w.heap.size+1) 0 J L4 J aiy bj bu L4c.out ?_;intro w6 hb6 hg6 hs6;rw[Fi bj]at hb6;have HB6:al w w6:=ju;have K:F w6 w.heap.size 119 L/\F w6 (w.heap.size+1+1) 119 L4:=iW;refine⟨K,?_⟩;clear ahX ahW aiy ajd hg6;simp only[E]
  (refine ag 6 (some 3) J J (by kernel_rfl) (fun W hW=>rfl) K ?_;simp only[E])
  refine wpAnyH_done (by kernel_rfl) ?_ _;exact pO
 |false=>
  have hr1:(4:Int)=res:=by simpa using agI.out
  subst hr1;clear agI;have B4:=B4';have B2:=B2';have HB:=HB';go_wp2_with(first
   |(refine ur (.load 119 (.tmp 4)) rfl ?_;go_must(refine uu rfl _ _ rfl (w.heap.size+1+1) 0 rfl B4 33 I _ underlying119 rfl uU L4 (wP I) ?_))
   |(refine ur (.store 119 (.tmp 2) (.tmp 52)) rfl (ab rfl (w.heap.size+1) 0 L4 B2 bj bu L4c.out ?_)))
  exact pj
theorem ae1(vn vt vm:Value)(r:RR)(hr:r.wf)(hn:vn.oneCell'=true)(ht:vt.oneCell'=true)(hm:vm.oneCell'=true)(w:World)(agn:r.raw.length<=140737488355328)(z:uQ r.O r.N=0):
  Calls prog 235 #[.agg (vX vn vt vm r).toArray] w (uI (.tuple #[.agg (vX vn vt vm {r with raw:=[]}).toArray,.int .i64 (if 65535<r.raw.length then 3 else 0)]) w):=by
 have hl:=vA (vn:=vn) (vt:=vt) (vm:=vm) hr;have L1?:=Lr (vn:=vn) (vt:=vt) (vm:=vm) (r:=r);have L2?:=Ls (vn:=vn) (vt:=vt) (vm:=vm) (r:=r);have L32:=Jc (vn:=vn) (vt:=vt) (vm:=vm) hr;have LS:=Y (Lv (vn:=vn) (vt:=vt) (vm:=vm) hr []);have L1c:=Y (wR (r:=r) hn ht hm);have L4c:=Y (wR (r:={r with raw:=[]}) hn ht hm);have L4l:=vA (vn:=vn) (vt:=vt) (vm:=vm) (r:={r with raw:=[]}) hr;have hb:=Y (fun w=>wB r.O r.N w);rw[z]at hb;generalize vX vn vt vm {r with raw:=[]}=L4 at*;generalize vX vn vt vm r=L at*;generalize r.raw=raw,r.O=O,r.N=N at*;clear z;generalize ajv:(if 65535<raw.length then(3:Int)else 0)=res;have agI:=Y ajv;clear ajv;have B0:=F.new w 119 L;go_enter func235,ntmps235;go_wp2_with(first
  |(refine ur (.load 119 (.tmp 1)) rfl ?_;go_must(refine uu rfl _ _ rfl w.heap.size 0 rfl (F.alloc (F.new w 119 L) _) 33 I _ underlying119 rfl uU L (wP I) ?_))
  |(refine ur (.store 119 (.tmp 4) (.tmp 6)) rfl (ab rfl (w.heap.size+1+1) 0 L (F.wE _ _ wm _ ap) bj bm L1c.out ?_)))
 intro w3 hb3 hg3 hs3;have B1:F w3 w.heap.size 119 L:=iC;have B2:F w3 (w.heap.size+1) 119 wm:=ik;have B4:F w3 (w.heap.size+1+1) 119 L:=gQ;have HB:al w w3:=gK;clear hb3 hg3 B0;have u1:=B1.M 1 L1?;have u2:=B1.M 2 L2?;clear L1? L2?;go_wp2_with fail;refine(hb.out _).mono ?_;rintro _ w4 ⟨rfl,rfl⟩;clear hb u1 u2;have u32:=B4.M 32 L32;have v32:=B1.M 32 L32;have f32:=B4.frozen 32;have B4s:=rrS B4 LS.out;have hne:w.heap.size≠w.heap.size+1+1:=I;have aiX:w.heap.size+1≠w.heap.size+1+1:=I;have B2s:=B2.y7 (p:=⟨w.heap.size+1+1,32,none⟩) aiX (.string (bs []));have HBs:=HB.setCell (p:=⟨w.heap.size+1+1,32,none⟩) aA (.string (bs []));clear B1 B2 B4 HB L32 LS;have B4:=B4s;have B2:=B2s;have HB:=HBs;clear B4s B2s HBs;by_cases aog:65535<raw.length
 ·
  have hr1:(3:Int)=res:=by rw[<-agI.out,if_pos aog]
  have hd:decide (65535<(raw.length:Int))=true:=mM;subst hr1;clear agI;go_wp2_with(first
   |(refine ur (.load 119 (.tmp 4)) rfl ?_;go_must(refine uu rfl _ _ rfl (w.heap.size+1+1) 0 rfl B4 33 I _ underlying119 rfl uU L4 (wP I) ?_))
   |(refine ur (.store 119 (.tmp 2) (.tmp 85)) rfl (ab rfl (w.heap.size+1) 0 L4 B2 bj bu L4c.out ?_)))
  exact pj
 ·
  have hr1:(0:Int)=res:=by rw[<-agI.out,if_neg aog]
  have hd:decide (65535<(raw.length:Int))=false:=iz;subst hr1;clear agI;go_wp2_with(first
   |(refine ur (.load 119 (.tmp 4)) rfl ?_;go_must(refine uu rfl _ _ rfl (w.heap.size+1+1) 0 rfl B4 33 I _ underlying119 rfl uU L4 (wP I) ?_))
   |(refine ur (.store 119 (.tmp 2) (.tmp 86)) rfl (ab rfl (w.heap.size+1) 0 L4 B2 bj bu L4c.out ?_)))
  exact pj
end Go.Proofs.YthnbcmlnpdabhaaGreat
