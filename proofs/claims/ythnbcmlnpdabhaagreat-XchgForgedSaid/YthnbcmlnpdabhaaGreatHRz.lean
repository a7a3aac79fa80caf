/-
  Records as cells;what is wrong with a record,plainly.
-/
import Derived.Test.YthnbcmlnpdabhaaGreatGCz
import Derived.Test.YthnbcmlnpdabhaaGreatGIz
namespace Go.Proofs.YthnbcmlnpdabhaaGreat
open _root_.Go.Proofs.Tryz
set_option maxHeartbeats 8000000
open Go.RowKit
set_option maxRecDepth 100000
set_option linter.unusedVariables false
variable {n:List (List UInt8)} {A:Option Addr} {c g:Nat} {t:TypeId}
structure RR where
 name:List (List UInt8)
 E:Int
 N:Int
 ak:Int
 ad:uV
 tg:List (List UInt8)
 ml:List (List UInt8)
 pri:Int
 we:Int
 po:Int
 h1:List Int
 raw:List UInt8
deriving DecidableEq
def uF(l:List Int):List Value:=l.map (Value.int .i64)
def vy(vn vt vm:Value)(r:RR):List Value:=vn:: .int .i64 r.E:: .int .i64 r.N:: .int .i64 r.ak::(r.ad.cells++(vt::vm:: .int .i64 r.pri:: .int .i64 r.we:: .int .i64 r.po::(uF r.h1++[.string (bs r.raw)])))
def RR.wf(r:RR):Prop:=r.ad.ip.length=16/\r.h1.length=5
section
variable {vn vt vm:Value} {r:RR}
theorem uP(h:r.wf):(vy vn vt vm r).length=33:=by simp[vy,r.ad.ur h.1,uF,h.2]
theorem ad9:(vy vn vt vm r)[0]?=some vn:=rfl
theorem KL:(vy vn vt vm r)[1]?=some (.int .i64 r.E):=rfl
theorem KM:(vy vn vt vm r)[2]?=some (.int .i64 r.N):=rfl
theorem aea:(vy vn vt vm r)[3]?=some (.int .i64 r.ak):=rfl
theorem Cd(h:r.wf):((vy vn vt vm r).drop 4).take 18=r.ad.cells:=by
 simp only[vy,List.drop_succ_cons,List.drop_zero];exact List.take_left' (r.ad.ur h.1)
theorem Ce(h:r.wf)(k:Nat):(vy vn vt vm r)[22+k]?=(vt::vm:: .int .i64 r.pri:: .int .i64 r.we:: .int .i64 r.po::(uF r.h1++[.string (bs r.raw)]))[k]?:=by
 have e:vy vn vt vm r=(vn:: .int .i64 r.E:: .int .i64 r.N:: .int .i64 r.ak::r.ad.cells)++(vt::vm:: .int .i64 r.pri:: .int .i64 r.we:: .int .i64 r.po::(uF r.h1++[.string (bs r.raw)])):=lG;have hl:(vn:: .int .i64 r.E:: .int .i64 r.N:: .int .i64 r.ak::r.ad.cells).length=22:=iU;rw[e,List.getElem?_append_right I,hl,Nat.add_sub_cancel_left]
theorem AQ(h:r.wf):(vy vn vt vm r)[22]?=some vt:=Ce h 0
theorem Iu(h:r.wf):(vy vn vt vm r)[23]?=some vm:=Ce h 1
theorem Iv(h:r.wf):(vy vn vt vm r)[24]?=some (.int .i64 r.pri):=Ce h 2
theorem Iw(h:r.wf):(vy vn vt vm r)[25]?=some (.int .i64 r.we):=Ce h 3
theorem Ix(h:r.wf):(vy vn vt vm r)[26]?=some (.int .i64 r.po):=Ce h 4
theorem Vb(h:r.wf)(i:Nat)(hi:i<5):(vy vn vt vm r)[27+i]?=some (.int .i64 (r.h1.getD i 0)):=by
 have:=Ce (vn:=vn) (vt:=vt) (vm:=vm) h (5+i);rw[show 22+(5+i)=27+i by omega]at this;rw[this,show 5+i=i+1+1+1+1+1 by omega];simp only[List.getElem?_cons_succ];rw[List.getElem?_append_left (by simp[uF,h.2];omega)];simp[uF,List.getD,h.2,hi]
theorem Iy(h:r.wf):(vy vn vt vm r)[32]?=some (.string (bs r.raw)):=by
 have:=Ce (vn:=vn) (vt:=vt) (vm:=vm) h 10;rw[this];simp[uF,h.2]
theorem Ep(h:r.wf):((vy vn vt vm r).drop 27).take 5=uF r.h1:=by
 have e:vy vn vt vm r=(vn:: .int .i64 r.E:: .int .i64 r.N:: .int .i64 r.ak::(r.ad.cells++[vt,vm,.int .i64 r.pri,.int .i64 r.we,.int .i64 r.po]))++(uF r.h1++[.string (bs r.raw)]):=lG;have hl:(vn:: .int .i64 r.E:: .int .i64 r.N:: .int .i64 r.ak::(r.ad.cells++[vt,vm,.int .i64 r.pri,.int .i64 r.we,.int .i64 r.po])).length=27:=iU;rw[e,<-hl,List.drop_left];exact List.take_left' bc
theorem wj(hn:vn.oneCell'=true)(ht:vt.oneCell'=true)(hm:vm.oneCell'=true):∀v∈vy vn vt vm r,v.oneCell'=true:=by
 intro v hv;simp only[vy,List.mem_cons,List.mem_append]at hv;rcases hv with rfl|rfl|rfl|rfl|hv|rfl|rfl|rfl|rfl|rfl|hv|hv
 ·exact hn
 ·rfl
 ·rfl
 ·rfl
 ·exact r.ad.xg v hv
 ·exact ht
 ·exact hm
 ·rfl
 ·rfl
 ·rfl
 ·exact tF
 ·
  rcases hv with rfl|hv
  ·rfl
  ·cases hv
end
def xd(w:World)(cs:List Value)(r:RR):Prop:=
 ∃An cn At ct Am cm,cs=vy (.slice An r.name.length cn) (.slice At r.tg.length ct) (.slice Am r.ml.length cm) r/\r.wf/\xj w An cn r.name/\xj w At ct r.tg/\xj w Am cm r.ml/\r.raw.length<=140737488355328
theorem xd.G{w w':World}{cs:List Value}{r:RR}(h:xd w cs r)(F:al w w'):xd w' cs r:=by
 obtain⟨An,cn,At,ct,Am,cm,U,X,h3,h4,h5,h6⟩:=h;exact⟨An,cn,At,ct,Am,cm,U,X,h3.G F,h4.G F,h5.G F,h6⟩
theorem uu:(prog.info? 119).map (·.size)=some 33:=by kernel_rfl
theorem wE:(prog.info? 117).map (·.size)=some 5:=by kernel_rfl
def uo(E N:Int):Int:=if N=1/\(E=1\/E=28\/E=5\/E=12\/E=33\/E=6)then E else 0
def xN(most n:Int):Bool:=decide (0<=n)&&decide (n<=most)
def yd(r:RR):Int:=
 if uo r.E r.N=1 then(if r.ad.check≠0\/r.ad.fam≠4\/r.ad.cl≠0 then 10 else 0)
 else if uo r.E r.N=28 then(if r.ad.check≠0\/r.ad.fam≠6\/r.ad.cl≠0 then 10 else 0)
 else if uo r.E r.N=5\/uo r.E r.N=12 then tY r.tg
 else if uo r.E r.N=33 then(if([r.pri,r.we,r.po].all (xN 65535))then tY r.tg else 4)
 else if uo r.E r.N=6 then(if tY r.tg≠0 then tY r.tg else if tY r.ml≠0 then tY r.ml else if r.h1.all (xN 4294967295)then 0 else 4)
 else if 65535<r.raw.length then 3 else 0
def xE(r:RR):RR:=
 if uo r.E r.N=1\/uo r.E r.N=28 then{r with ad:=uV.zero}
 else if uo r.E r.N=5\/uo r.E r.N=12 then{r with tg:=[]}
 else if uo r.E r.N=33 then{r with pri:=0,we:=0,po:=0,tg:=[]}
 else if uo r.E r.N=6 then{r with tg:=[],ml:=[],h1:=[0,0,0,0,0]}
 else{r with raw:=[]}
def zW(r:RR):Bool:=decide (r.ad=uV.zero)&&decide (r.tg=[])&&decide (r.ml=[])&&decide (r.pri=0)&&decide (r.we=0)&&decide (r.po=0)&&decide (r.h1=[0,0,0,0,0])&&decide (r.raw=[])
def uk(r:RR):Int:=
 if tY r.name≠0 then tY r.name
 else if ¬([r.E,r.N].all (xN 65535))\/¬xN 4294967295 r.ak then 4
 else if yd r≠0 then yd r
 else if zW (xE r)then 0 else 5
theorem vL(E N:Int)(w:World):Calls prog 237 #[.int .i64 E,.int .i64 N] w (yi (.int .i64 (uo E N)) w):=by
 by_cases U:N=1
 ·
  subst U;by_cases O:E=1\/E=28\/E=5\/E=12\/E=33\/E=6
  ·
   have hr:uo E 1=E:=lU;rw[hr];clear hr;rcases O with rfl|rfl|rfl|rfl|rfl|rfl;all_goals
    go_enter func237,ntmps237;go_wp2;exact o7
  ·have hr:uo E 1=0:=lC;rw[hr];have e1:(E==1)=false:=az;have e2:(E==28)=false:=az;have e3:(E==5)=false:=az;have e4:(E==12)=false:=az;have e5:(E==33)=false:=az;have e6:(E==6)=false:=az;clear O hr;go_enter func237,ntmps237;go_wp2;exact o7
 ·have hr:uo E N=0:=lD;rw[hr];have e1:(N !=1)=true:=il;clear U hr;go_enter func237,ntmps237;go_wp2;exact o7
theorem uU(E N:Int)(w:World):Calls prog 164 #[.int .i64 E,.int .i64 N] w (yi (.int .i64 (uo E N)) w):=by
 by_cases U:N=1
 ·
  subst U;by_cases O:E=1\/E=28\/E=5\/E=12\/E=33\/E=6
  ·
   have hr:uo E 1=E:=lU;rw[hr];clear hr;rcases O with rfl|rfl|rfl|rfl|rfl|rfl;all_goals
    go_enter func164,ntmps164;go_wp2;exact o7
  ·have hr:uo E 1=0:=lC;rw[hr];have e1:(E==1)=false:=az;have e2:(E==28)=false:=az;have e3:(E==5)=false:=az;have e4:(E==12)=false:=az;have e5:(E==33)=false:=az;have e6:(E==6)=false:=az;clear O hr;go_enter func164,ntmps164;go_wp2;exact o7
 ·have hr:uo E N=0:=lD;rw[hr];have e1:(N==1)=false:=il;clear U hr;go_enter func164,ntmps164;go_wp2;exact o7
theorem Vc(m n:Int):xN m n=true↔0<=n/\n<=m:=by simp[xN]
theorem YA{m n:Int}(h:xN m n=false):n<0\/m<n:=by simp[xN]at h;omega
theorem Cu(m:Int)(A:Option Addr)(c:Nat)(l:List Int)(w:World)(hA:Hm w A l)(hl:l.length<=281474976710656):Calls prog 234 #[.int .i64 m,.slice A l.length c] w (yi (.bool (l.all (xN m))) w):=by
 go_enter func234,ntmps234;go_wp2_with fail;go_loop[9] (fun i=>∃k:Nat,k<=l.length/\i= .int .i64 k/\Hid (∀j (hj:j<l.length),j<k->xN m l[j]=true)) (fun i=>l.length-(intOf i).toNat)
 case atStart=>exact⟨0,Nat.zero_le _,J,Y (fun j hj h=>by omega)⟩
 case round=>
  obtain⟨k,O,rfl,H⟩:=hrel;by_cases Hh:k<l.length
  ·
   have tQ:(k:Int)<l.length:=I;obtain⟨b,off,rfl,_,xa⟩:=hA I;have c1:=xa k Hh;clear xa;cases F:xN m l[k]with
   |true=>obtain⟨U,X⟩:=(Vc _ _).1 F;have HB:=Y F;clear F;obtain⟨x,hx⟩:∃x,x=l[k]:=gp;rw[<-hx]at c1 U X;clear hx;have d1:decide (x<0)=false:=ik;have d2:decide (m<x)=false:=ik;exact pv
   |false=>
    have hno:l.all (xN m)=false:=by rw[List.all_eq_false];exact⟨l[k],List.getElem_mem Hh,aL⟩
    have HN:=Y hno;have h12:=YA F;generalize l[k]=x at*;clear F hno;by_cases U:x<0
    ·have d1:decide (x<0)=true:=kR;exact ti
    ·have d1:decide (x<0)=false:=kD;have X:m<x:=I;have d2:decide (m<x)=true:=decide_eq_true X;clear h12;exact ti
  ·
   have tQ:¬(k:Int)<l.length:=I;have arv:l.all (xN m)=true:=by rw[List.all_eq_true];intro x hx;obtain⟨j,hj,rfl⟩:=List.getElem_of_mem hx;exact H.out j hj I
   have HY:=Y arv;clear arv;go_wp2_with fail;go_ret;exact yi.mk (zD HY.out.symm) J
def ze:List (List (List UInt8))->Int
 |[]=>0
 |n::ls=>if tY n≠0 then tY n else ze ls
theorem Wh{ls:List (List (List UInt8))}(h:∀j (hj:j<ls.length),tY ls[j]=0):ze ls=0:=by
 induction ls with
 |nil=>rfl
 |cons n ls ih=>have h0:=h 0 ap;simp at h0;unfold ze;exact sK
theorem Tu{ls:List (List (List UInt8))}{k:Nat}(O:k<ls.length)(h:∀j (hj:j<ls.length),j<k->tY ls[j]=0)(F:tY ls[k]≠0):ze ls=tY ls[k]:=by
 induction ls generalizing k with
 |nil=>simp at O
 |cons n ls ih=>
  cases k with
  |zero=>simp only[List.getElem_cons_zero]at F⊢;unfold ze;rw[if_pos F]
  |succ k=>have h0:=h 0 ap I;simp at h0;unfold ze;exact rK
theorem Gv(A:Option Addr)(c:Nat)(ls:List (List (List UInt8)))(w:World)(hA:Hl w A ls)(hl:ls.length<=281474976710656):Calls prog 247 #[.slice A ls.length c] w (yi (.int .i64 (ze ls)) w):=by
 go_enter func247,ntmps247;go_wp2_with fail;go_loop[8] (fun i=>∃k:Nat,k<=ls.length/\i= .int .i64 k/\Hid (∀j (hj:j<ls.length),j<k->tY ls[j]=0)) (fun i=>ls.length-(intOf i).toNat)
 case atStart=>exact⟨0,Nat.zero_le _,J,Y (fun j hj h=>by omega)⟩
 case round=>
  obtain⟨k,O,rfl,H⟩:=hrel;by_cases Hh:k<ls.length
  ·
   have tQ:(k:Int)<ls.length:=I;obtain⟨b,off,rfl,_,xa⟩:=hA I;obtain⟨Ai,ci,c1,hR⟩:=xa k Hh;have C:=zc Ai ci ls[k] w hR.1 (by have:=hR.2.2.1;omega);clear xa;by_cases h0:tY ls[k]=0
   ·
    rw[h0]at C;have H0:=Y h0;clear h0;go_wp2_with fail;refine C.mono ?_;rintro _ w1 ⟨rfl,rfl⟩;clear C;go_wp2_with fail;go_round
    case rel=>exact⟨k+1,I,fU,Y (fun j hj h=>by
     by_cases e:j=k
     ·subst e;exact H0.out
     ·
      exact H.out j hj I)⟩
    case measure=>simp[intOf];omega
   ·have F:=Y (Tu Hh H.out h0);generalize tY ls[k]=e at*;have h0':(e !=0)=true:=kj;clear h0;go_wp2_with fail;refine C.mono ?_;rintro _ w1 ⟨rfl,rfl⟩;clear C;go_wp2_with fail;go_ret;exact yi.mk (yf F.out.symm) J
  ·have tQ:¬(k:Int)<ls.length:=I;have hy:=Y (Wh (fun j hj=>H.out j hj I));go_wp2_with fail;go_ret;exact yi.mk (yf hy.out.symm) J
def adE(a:uV)(f:Int):Int:=if a.check≠0\/a.fam≠f\/a.cl≠0 then 10 else 0
theorem Jk(x:uV)(f:Int)(hx:x.ip.length=16)(w:World):Calls prog 246 #[.agg x.cells.toArray,.int .i64 f] w (uf (.int .i64 (adE x f)) w):=by
 have hcl:=x.ur hx;have C:=Y (CO x hx);have F:=Z.new w 24 x.cells;have hld:((x.cells).drop 0).take 18=x.cells:=by rw[List.drop_zero,List.take_of_length_le I]
 have HL:=Y hld;have c0:x.cells[0]?=some (.int .i64 x.fam):=rfl;have c17:=x.JX hx;clear hld;have he:adE x f=if x.check≠0\/x.fam≠f\/x.cl≠0 then 10 else 0:=rfl
 generalize adE x f=er at*;have HE:=Y he;clear he;obtain⟨ck,hck⟩:∃ck,ck=x.check:=gp;rw[<-hck]at C HE;clear hck;generalize x.fam=fm,x.cl=zn,x.cells=L at*;go_enter func246,ntmps246;go_wp2_with(refine tO (.load 24 (.tmp 2)) J ?_;go_must(refine tP J _ _ J w.heap.size 0 J F 18 I _ underlying24 J vR L HL.out ?_));go_wp2_with fail;refine(C.out _).mono ?_;rintro _ w1 ⟨rfl,b1⟩;have hb1:=F.G b1 ap;have hB:=tL ((Below.refl _ w).alloc (Nat.le_refl _) (.cells L.toArray 24)) ap b1;have u0:=hb1.K 0 c0;have u17:=hb1.K 17 c17;clear b1 F hb1 C HL;by_cases U:ck=0
 ·
  have e1:(ck !=0)=false:=il;by_cases X:fm=f
  ·
   have e2:(fm !=f)=false:=fW;by_cases h3:zn=0
   ·have e3:(zn !=0)=false:=iT;have hr:=HE.out;rw[if_neg bh]at hr;subst hr;clear HE;clear U X h3;exact qi
   ·have e3:(zn !=0)=true:=iT;have hr:=HE.out;rw[if_pos (.inr (.inr h3))]at hr;subst hr;clear HE;clear U X h3;exact qi
  ·have e2:(fm !=f)=true:=fW;have hr:=HE.out;rw[if_pos (.inr (.inl X))]at hr;subst hr;clear HE;clear U X;exact qi
 ·have e1:(ck !=0)=true:=il;have hr:=HE.out;rw[if_pos (.inl U)]at hr;subst hr;clear HE;clear U;exact qi
set_option linter.unusedSimpArgs false
def tS:Value:=.slice none 0 0
def RR.zero:RR:=⟨[],0,0,0,uV.zero,[],[],0,0,0,[0,0,0,0,0],[]⟩
def vG:List Value:=vy tS tS tS RR.zero
theorem Fa:vG.length=33:=uP ⟨J,J⟩
section
variable {vn vt vm:Value} {r:RR}
theorem Fb(h:r.wf)(a:uV):(vy vn vt vm r).take 4++a.cells++(vy vn vt vm r).drop 22=vy vn vt vm {r with ad:=a}:=by
 have e:(vy vn vt vm r).drop 22=(vt::vm:: .int .i64 r.pri:: .int .i64 r.we:: .int .i64 r.po::(uF r.h1++[.string (bs r.raw)])):=by have e2:vy vn vt vm r=(vn:: .int .i64 r.E:: .int .i64 r.N:: .int .i64 r.ak::r.ad.cells)++(vt::vm:: .int .i64 r.pri:: .int .i64 r.we:: .int .i64 r.po::(uF r.h1++[.string (bs r.raw)])):=lG;have hl:(vn:: .int .i64 r.E:: .int .i64 r.N:: .int .i64 r.ak::r.ad.cells).length=22:=iU;rw[e2,<-hl,List.drop_left]
 rw[e];simp[vy]
end
theorem Es{L sub:List Value}(h:L.length=sub.length):L.take 0++sub++L.drop (0+sub.length)=sub:=by
 rw[List.take_zero,List.nil_append,Nat.zero_add,List.drop_of_length_le I,List.append_nil]
theorem uV.YB:uV.zero.cells.length=18:=uV.zero.ur J
theorem aeb(vn vt vm:Value)(r:RR)(hr:r.wf)(hn:vn.oneCell'=true)(ht:vt.oneCell'=true)(hm:vm.oneCell'=true)(w:World)(O:uo r.E r.N=1):
  Calls prog 235 #[.agg (vy vn vt vm r).toArray] w (uf (.tuple #[.agg (vy vn vt vm {r with ad:=uV.zero}).toArray,.int .i64 (adE r.ad 4)]) w):=by
 have hl:=uP (vn:=vn) (vt:=vt) (vm:=vm) hr;have L1?:=KL (vn:=vn) (vt:=vt) (vm:=vm) (r:=r);have L2?:=KM (vn:=vn) (vt:=vt) (vm:=vm) (r:=r);have LA:=Y (Cd (vn:=vn) (vt:=vt) (vm:=vm) hr);have LS:=Y (Fb (vn:=vn) (vt:=vt) (vm:=vm) hr uV.zero);have L1c:=Y (wj (r:=r) hn ht hm);have L4c:=Y (wj (r:={r with ad:=uV.zero}) hn ht hm);have L4l:=uP (vn:=vn) (vt:=vt) (vm:=vm) (r:={r with ad:=uV.zero}) ⟨J,hr.2⟩;have hb:=Y (fun w=>vL r.E r.N w);rw[O]at hb;have AD:=Y (Jk r.ad 4 hr.1);generalize vy vn vt vm {r with ad:=uV.zero}=L4 at*;generalize vy vn vt vm r=L at*;generalize adE r.ad 4=e at*;generalize r.ad.cells=LAd,r.E=E,r.N=N at*;clear O;have B0:=Z.new w 119 L;go_enter func235,ntmps235;go_wp2_with(first
  |(refine tO (.load 119 (.tmp 1)) rfl ?_;go_must(refine tP rfl _ _ rfl w.heap.size 0 rfl (Z.alloc (Z.new w 119 L) _) 33 I _ underlying119 rfl uu L (wg I) ?_))
  |(refine tO (.store 119 (.tmp 4) (.tmp 6)) rfl (ab rfl (w.heap.size+1+1) 0 L (Z.vP _ _ vG _ ap) bi bj L1c.out ?_)))
 intro w3 hb3 hg3 hs3;have B1:Z w3 w.heap.size 119 L:=io;have B2:Z w3 (w.heap.size+1) 119 vG:=gY;have B4:Z w3 (w.heap.size+1+1) 119 L:=gH;have HB:al w w3:=gB;clear hb3 hg3 B0;have u1:=B1.K 1 L1?;have u2:=B1.K 2 L2?;clear L1? L2?;go_wp2_with fail;refine(hb.out _).mono ?_;rintro _ w4 ⟨rfl,rfl⟩;clear hb u1 u2;go_wp2_with(refine tO (.store 24 (.tmp 15) (.tmp 14)) J (ab J (w.heap.size+1+1) 4 uV.zero.cells B4 (by rw[hl];decide) vR (uV.xg _) ?_));intro w4 hb4 hg4 hs4;have B1':=B1.grown hg4 az;have B2':=B2.grown hg4 ap;have B4':Z w4 (w.heap.size+1+1) 119 L4:=jx;have HB':al w w4:=tN HB hg4 HB.size I;clear hb4 hg4 B1 B2 B4 HB;go_wp2_with fail;refine wp_region_held_drew (S:=fun w'=>Z w' w.heap.size 119 L/\Z w' (w.heap.size+1+1) 119 L4) (by kernel_rfl) ⟨B1',B4'⟩ (fun M=>?_);refine uZ 0 (some 16) 119 (.tmp 4) ⟨w.heap.size+1+1,0,none⟩ J J J J (by kernel_rfl) (by kernel_rfl) (by kernel_rfl) (fun _ _ _ h=>h) J (fun W hW=>hW.2.wk 119 0 33 I _ underlying119 J uu L4 (wg I)) M ?_;simp only[z]
 (refine ag 1 (some 17) J J (by kernel_rfl) (fun W hW=>rfl) M ?_;simp only[z])
 refine uZ 2 (some 18) 24 (.tmp 17) ⟨w.heap.size,4,none⟩ J J J J (by kernel_rfl) (by kernel_rfl) (by kernel_rfl) (fun _ _ _ h=>h) (by kernel_rfl) (fun W hW=>hW.1.wk 24 4 18 I _ underlying24 J vR LAd LA.out) M ?_;simp only[z];refine uO 3 (some 19) 246 #[.agg LAd.toArray,.int .i64 4] (by kernel_rfl) J J (by kernel_rfl) bm (AD.out _) ?_;rintro _ w5 ⟨rfl,b5⟩;have ahb:=M.1.G b5 M.1.lt;have aha:=M.2.G b5 M.2.lt;have ahH:=B2'.drew.G b5 B2'.drew.lt;have aim:al w w5:=lr;refine⟨_,J,⟨ahb,aha⟩,?_⟩;clear M B1' B4' B2' HB' b5;simp only[z];refine vz 4 none 119 (.tmp 2) (.tmp 16) (by kernel_rfl) J J J (by kernel_rfl) (w.heap.size+1) 0 J L4 J ahH bi bp L4c.out ?_;intro w6 hb6 hg6 hs6;rw[Es bi]at hb6;have HB6:al w w6:=jm;have M:Z w6 w.heap.size 119 L/\Z w6 (w.heap.size+1+1) 119 L4:=iO;refine⟨M,?_⟩;clear ahb aha ahH aim hg6;simp only[z]
 (refine ag 5 (some 3) J J (by kernel_rfl) (fun W hW=>rfl) M ?_;simp only[z])
 refine wpAnyH_done (by kernel_rfl) ?_ _;exact pk
theorem acV(vn vt vm:Value)(r:RR)(hr:r.wf)(hn:vn.oneCell'=true)(ht:vt.oneCell'=true)(hm:vm.oneCell'=true)(w:World)(O:uo r.E r.N=28):
  Calls prog 235 #[.agg (vy vn vt vm r).toArray] w (uf (.tuple #[.agg (vy vn vt vm {r with ad:=uV.zero}).toArray,.int .i64 (adE r.ad 6)]) w):=by
 have hl:=uP (vn:=vn) (vt:=vt) (vm:=vm) hr;have L1?:=KL (vn:=vn) (vt:=vt) (vm:=vm) (r:=r);have L2?:=KM (vn:=vn) (vt:=vt) (vm:=vm) (r:=r);have LA:=Y (Cd (vn:=vn) (vt:=vt) (vm:=vm) hr);have LS:=Y (Fb (vn:=vn) (vt:=vt) (vm:=vm) hr uV.zero);have L1c:=Y (wj (r:=r) hn ht hm);have L4c:=Y (wj (r:={r with ad:=uV.zero}) hn ht hm);have L4l:=uP (vn:=vn) (vt:=vt) (vm:=vm) (r:={r with ad:=uV.zero}) ⟨J,hr.2⟩;have hb:=Y (fun w=>vL r.E r.N w);rw[O]at hb;have AD:=Y (Jk r.ad 6 hr.1);generalize vy vn vt vm {r with ad:=uV.zero}=L4 at*;generalize vy vn vt vm r=L at*;generalize adE r.ad 6=e at*;generalize r.ad.cells=LAd,r.E=E,r.N=N at*;clear O;have B0:=Z.new w 119 L;go_enter func235,ntmps235;go_wp2_with(first
  |(refine tO (.load 119 (.tmp 1)) rfl ?_;go_must(refine tP rfl _ _ rfl w.heap.size 0 rfl (Z.alloc (Z.new w 119 L) _) 33 I _ underlying119 rfl uu L (wg I) ?_))
  |(refine tO (.store 119 (.tmp 4) (.tmp 6)) rfl (ab rfl (w.heap.size+1+1) 0 L (Z.vP _ _ vG _ ap) bi bj L1c.out ?_)))
 intro w3 hb3 hg3 hs3;have B1:Z w3 w.heap.size 119 L:=io;have B2:Z w3 (w.heap.size+1) 119 vG:=gY;have B4:Z w3 (w.heap.size+1+1) 119 L:=gH;have HB:al w w3:=gB;clear hb3 hg3 B0;have u1:=B1.K 1 L1?;have u2:=B1.K 2 L2?;clear L1? L2?;go_wp2_with fail;refine(hb.out _).mono ?_;rintro _ w4 ⟨rfl,rfl⟩;clear hb u1 u2;go_wp2_with(refine tO (.store 24 (.tmp 23) (.tmp 22)) J (ab J (w.heap.size+1+1) 4 uV.zero.cells B4 (by rw[hl];decide) vR (uV.xg _) ?_));intro w4 hb4 hg4 hs4;have B1':=B1.grown hg4 az;have B2':=B2.grown hg4 ap;have B4':Z w4 (w.heap.size+1+1) 119 L4:=jx;have HB':al w w4:=tN HB hg4 HB.size I;clear hb4 hg4 B1 B2 B4 HB;go_wp2_with fail;refine wp_region_held_drew (S:=fun w'=>Z w' w.heap.size 119 L/\Z w' (w.heap.size+1+1) 119 L4) (by kernel_rfl) ⟨B1',B4'⟩ (fun M=>?_);refine uZ 0 (some 24) 119 (.tmp 4) ⟨w.heap.size+1+1,0,none⟩ J J J J (by kernel_rfl) (by kernel_rfl) (by kernel_rfl) (fun _ _ _ h=>h) J (fun W hW=>hW.2.wk 119 0 33 I _ underlying119 J uu L4 (wg I)) M ?_;simp only[z]
 (refine ag 1 (some 25) J J (by kernel_rfl) (fun W hW=>rfl) M ?_;simp only[z])
 refine uZ 2 (some 26) 24 (.tmp 25) ⟨w.heap.size,4,none⟩ J J J J (by kernel_rfl) (by kernel_rfl) (by kernel_rfl) (fun _ _ _ h=>h) (by kernel_rfl) (fun W hW=>hW.1.wk 24 4 18 I _ underlying24 J vR LAd LA.out) M ?_;simp only[z];refine uO 3 (some 27) 246 #[.agg LAd.toArray,.int .i64 6] (by kernel_rfl) J J (by kernel_rfl) bm (AD.out _) ?_;rintro _ w5 ⟨rfl,b5⟩;have ahb:=M.1.G b5 M.1.lt;have aha:=M.2.G b5 M.2.lt;have ahH:=B2'.drew.G b5 B2'.drew.lt;have aim:al w w5:=lr;refine⟨_,J,⟨ahb,aha⟩,?_⟩;clear M B1' B4' B2' HB' b5;simp only[z];refine vz 4 none 119 (.tmp 2) (.tmp 24) (by kernel_rfl) J J J (by kernel_rfl) (w.heap.size+1) 0 J L4 J ahH bi bp L4c.out ?_;intro w6 hb6 hg6 hs6;rw[Es bi]at hb6;have HB6:al w w6:=jm;have M:Z w6 w.heap.size 119 L/\Z w6 (w.heap.size+1+1) 119 L4:=iO;refine⟨M,?_⟩;clear ahb aha ahH aim hg6;simp only[z]
 (refine ag 5 (some 3) J J (by kernel_rfl) (fun W hW=>rfl) M ?_;simp only[z])
 refine wpAnyH_done (by kernel_rfl) ?_ _;exact pk
section
variable {vn vt vm:Value} {r:RR}
theorem Dc(h:r.wf)(k:Nat)(v:Value):(vy vn vt vm r).set (22+k) v=(vn:: .int .i64 r.E:: .int .i64 r.N:: .int .i64 r.ak::r.ad.cells)++(vt::vm:: .int .i64 r.pri:: .int .i64 r.we:: .int .i64 r.po::(uF r.h1++[.string (bs r.raw)])).set k v:=by
 have e2:vy vn vt vm r=(vn:: .int .i64 r.E:: .int .i64 r.N:: .int .i64 r.ak::r.ad.cells)++(vt::vm:: .int .i64 r.pri:: .int .i64 r.we:: .int .i64 r.po::(uF r.h1++[.string (bs r.raw)])):=lG;have hl:(vn:: .int .i64 r.E:: .int .i64 r.N:: .int .i64 r.ak::r.ad.cells).length=22:=iU;rw[e2,List.set_append_right _ _ I,hl,Nat.add_sub_cancel_left]
theorem Bo(h:r.wf)(v:Value):(vy vn vt vm r).set 22 v=vy vn v vm r:=by rw[Dc h 0];simp[vy]
theorem Np(h:r.wf)(v:Value):(vy vn vt vm r).set 23 v=vy vn vt v r:=by rw[Dc h 1];simp[vy]
theorem KN(h:r.wf)(x:Int):(vy vn vt vm r).set 24 (.int .i64 x)=vy vn vt vm {r with pri:=x}:=by rw[Dc h 2];simp[vy]
theorem Nq(h:r.wf)(x:Int):(vy vn vt vm r).set 25 (.int .i64 x)=vy vn vt vm {r with we:=x}:=by rw[Dc h 3];simp[vy]
theorem Nr(h:r.wf)(x:Int):(vy vn vt vm r).set 26 (.int .i64 x)=vy vn vt vm {r with po:=x}:=by rw[Dc h 4];simp[vy]
theorem KP(h:r.wf)(x:List UInt8):(vy vn vt vm r).set 32 (.string (bs x))=vy vn vt vm {r with raw:=x}:=by
 rw[Dc h 10];have e:(uF r.h1++[Value.string (bs r.raw)]).set 5 (.string (bs x))=uF r.h1++[.string (bs x)]:=by rw[List.set_append_right _ _ bc];simp[uF,h.2]
 simp[vy,e]
theorem Jl(h:r.wf)(l:List Int)(hl:l.length=5):(vy vn vt vm r).take 27++uF l++(vy vn vt vm r).drop 32=vy vn vt vm {r with h1:=l}:=by
 have e:vy vn vt vm r=(vn:: .int .i64 r.E:: .int .i64 r.N:: .int .i64 r.ak::(r.ad.cells++[vt,vm,.int .i64 r.pri,.int .i64 r.we,.int .i64 r.po]))++(uF r.h1++[.string (bs r.raw)]):=lG;have hl:(vn:: .int .i64 r.E:: .int .i64 r.N:: .int .i64 r.ak::(r.ad.cells++[vt,vm,.int .i64 r.pri,.int .i64 r.we,.int .i64 r.po])).length=27:=iU;have e1:(vy vn vt vm r).take 27=(vn:: .int .i64 r.E:: .int .i64 r.N:: .int .i64 r.ak::(r.ad.cells++[vt,vm,.int .i64 r.pri,.int .i64 r.we,.int .i64 r.po])):=by rw[e,<-hl,List.take_left]
 have e2:(vy vn vt vm r).drop 32=[.string (bs r.raw)]:=by rw[e,show 32=27+5 from J,<-List.drop_drop,<-hl,List.drop_left];exact List.drop_left' bc
 rw[e1,e2];simp[vy]
end
theorem KR(n:List (List UInt8)):ze [n]=tY n:=by simp only[ze];split<;>simp_all
theorem Hl.aec{w:World}(h:xj w A c n)(k:Nat)(O:k=w.heap.size)(t:TypeId):Hl (w.alloc (.cells #[.slice A n.length c] t)) (some ⟨k,0,none⟩) [n]:=by
 intro _;subst O;refine⟨_,0,J,ap,fun i hi=>?_⟩;have hi0:i=0:=by simp at hi;exact hi
 subst hi0;exact⟨A,c,(Z.new w t [.slice A n.length c]).K 0 J,h.G ((Below.refl _ _).alloc (Nat.le_refl _) _)⟩
theorem Hl.aeQ{w:World}{B:Option Addr}{d:Nat}{m:List (List UInt8)}(h:xj w A c n)(X:xj w B d m)(k:Nat)(O:k=w.heap.size)(t:TypeId):Hl (w.alloc (.cells #[.slice A n.length c,.slice B m.length d] t)) (some ⟨k,0,none⟩) [n,m]:=by
 intro _;subst O;refine⟨_,0,J,ap,fun i hi=>?_⟩;have F:=(Below.refl w.heap.size w).alloc (Nat.le_refl _) (.cells #[.slice A n.length c,.slice B m.length d] t);have hb1:=Z.new w t [.slice A n.length c,.slice B m.length d];have hi0:i=0\/i=1:=by simp at hi;omega
 rcases hi0 with rfl|rfl
 ·exact⟨A,c,hb1.K 0 J,h.G F⟩
 ·exact⟨B,d,hb1.K 1 J,X.G F⟩
theorem aed(vn vm:Value)(At:Option Addr)(ct:Nat)(r:RR)(hr:r.wf)(hn:vn.oneCell'=true)(hm:vm.oneCell'=true)(w:World)(hT:xj w At ct r.tg)(O:uo r.E r.N=5\/uo r.E r.N=12):
  Calls prog 235 #[.agg (vy vn (.slice At r.tg.length ct) vm r).toArray] w (uf (.tuple #[.agg (vy vn tS vm {r with tg:=[]}).toArray,.int .i64 (tY r.tg)]) w):=by
 obtain⟨vt,hvt⟩:∃v,v=Value.slice At r.tg.length ct:=gp;have ht:vt.oneCell'=true:=nK;rw[<-hvt];have hl:=uP (vn:=vn) (vt:=vt) (vm:=vm) hr;have L1?:=KL (vn:=vn) (vt:=vt) (vm:=vm) (r:=r);have L2?:=KM (vn:=vn) (vt:=vt) (vm:=vm) (r:=r);have L22:=AQ (vn:=vn) (vt:=vt) (vm:=vm) hr;have LS:=Y (Bo (vn:=vn) (vt:=vt) (vm:=vm) hr tS);have L1c:=Y (wj (r:=r) hn ht hm);have L4c:=Y (wj (vt:=tS) (r:={r with tg:=[]}) hn J hm);have L4l:=uP (vn:=vn) (vt:=tS) (vm:=vm) (r:={r with tg:=[]}) hr;have hb:=Y (fun w=>vL r.E r.N w);have aeq:=Y (KR r.tg);change Hid (_=vy vn tS vm {r with tg:=[]})at LS;generalize vy vn tS vm {r with tg:=[]}=L4 at*;generalize vy vn vt vm r=L at*;generalize tY r.tg=e at*;generalize uo r.E r.N=k at*;generalize r.E=E,r.N=N at*;rcases O with rfl|rfl;all_goals
  have B0:=Z.new w 119 L;go_enter func235,ntmps235;go_wp2_with(first
   |(refine tO (.load 119 (.tmp 1)) rfl ?_;go_must(refine tP rfl _ _ rfl w.heap.size 0 rfl (Z.alloc (Z.new w 119 L) _) 33 I _ underlying119 rfl uu L (wg I) ?_))
   |(refine tO (.store 119 (.tmp 4) (.tmp 6)) rfl (ab rfl (w.heap.size+1+1) 0 L (Z.vP _ _ vG _ ap) bi bj L1c.out ?_)))
  intro w3 hb3 hg3 hs3;have B1:Z w3 w.heap.size 119 L:=io;have B2:Z w3 (w.heap.size+1) 119 vG:=gY;have B4:Z w3 (w.heap.size+1+1) 119 L:=gH;have HB:al w w3:=gB;clear hb3 hg3 B0;have u1:=B1.K 1 L1?;have u2:=B1.K 2 L2?;clear L1? L2?;go_wp2_with fail;refine(hb.out _).mono ?_;rintro _ w4 ⟨rfl,rfl⟩;clear hb u1 u2;have u22:=B4.K 22 L22;have f22:=B4.frozen 22;go_wp2_with fail;have B4':=B4.set 22 tS;rw[LS.out]at B4';have B1':=B1.yG (p:=⟨w.heap.size+1+1,22,none⟩) az tS;have B2':=B2.yG (p:=⟨w.heap.size+1+1,22,none⟩) ap tS;have HB':Below w.heap.size w (w3.setCell ⟨w.heap.size+1+1,22,none⟩ tS):=HB.setCell az _;have hs4:(w3.setCell ⟨w.heap.size+1+1,22,none⟩ tS).heap.size=w.heap.size+1+1+1:=mS;change Code.wp _ _ _ _ (w3.setCell ⟨w.heap.size+1+1,22,none⟩ tS);generalize w3.setCell ⟨w.heap.size+1+1,22,none⟩ tS=w4 at*;clear B1 B2 B4 HB f22 hs3 LS;refine wp_region_held_drew (S:=fun w'=>Z w' w.heap.size 119 L/\Z w' (w.heap.size+1+1) 119 L4) (by kernel_rfl) ⟨B1',B4'⟩ (fun M=>?_);refine uZ 0 (some 32) 119 (.tmp 4) ⟨w.heap.size+1+1,0,none⟩ J J J J (by kernel_rfl) (by kernel_rfl) (by kernel_rfl) (fun _ _ _ h=>h) J (fun W hW=>hW.2.wk 119 0 33 I _ underlying119 J uu L4 (wg I)) M ?_;simp only[z]
  (refine ag 1 (some 33) J J (by kernel_rfl) (fun W hW=>rfl) M ?_;simp only[z])
  refine uZ 2 (some 34) 26 (.tmp 33) ⟨w.heap.size,22,none⟩ J J J J (by kernel_rfl) (by kernel_rfl) (by kernel_rfl) (fun _ _ _ h=>h) (by kernel_rfl) (fun W hW=>tV underlying26 J (hW.1.K 22 L22)) M ?_;simp only[z];have HB5:Below w.heap.size w w4.drew:=below_drewN HB' 1;refine zF 3 (some 35) (by kernel_rfl) J J (by kernel_rfl) (v:=.slice (some ⟨w4.drew.heap.size,0,none⟩) 1 1) (w':=w4.drew.alloc (.cells #[vt] 26)) bm ⟨M.1.alloc _,M.2.alloc _⟩ ?_;simp only[z];have AN:=Gv (some ⟨w4.drew.heap.size,0,none⟩) 1 [r.tg] _ (hvt▸Hl.aec (hT.G HB5) w4.drew.heap.size J 26) ap;rw[aeq.out]at AN;refine uO 4 (some 36) 247 #[.slice (some ⟨w4.drew.heap.size,0,none⟩) 1 1] (by kernel_rfl) J J (by kernel_rfl) bm AN ?_;rintro _ w5 ⟨rfl,b5⟩;have aim:al w w5:=b5▸HB5.alloc HB5.size _;have ahb:Z w5 w.heap.size 119 L:=b5▸M.1.alloc _;have aha:Z w5 (w.heap.size+1+1) 119 L4:=b5▸M.2.alloc _;have ahH:Z w5 (w.heap.size+1) 119 vG:=b5▸B2'.drew.alloc _;refine⟨_,J,⟨ahb,aha⟩,?_⟩;clear M B1' B4' B2' HB' HB5 b5 AN;simp only[z];refine vz 5 none 119 (.tmp 2) (.tmp 32) (by kernel_rfl) J J J (by kernel_rfl) (w.heap.size+1) 0 J L4 J ahH bi bp L4c.out ?_;intro w6 hb6 hg6 hs6;rw[Es bi]at hb6;have HB6:al w w6:=jm;have M:Z w6 w.heap.size 119 L/\Z w6 (w.heap.size+1+1) 119 L4:=iO;refine⟨M,?_⟩;clear ahb aha ahH aim hg6;simp only[z]
  (refine ag 6 (some 3) J J (by kernel_rfl) (fun W hW=>rfl) M ?_;simp only[z])
  refine wpAnyH_done (by kernel_rfl) ?_ _;exact pk
theorem Hm.new{w:World}(l:List Int)(k:Nat)(O:k=w.heap.size)(t:TypeId):Hm (w.alloc (.cells (uF l).toArray t)) (some ⟨k,0,none⟩) l:=by
 intro _;subst O;refine⟨_,0,J,ap,fun i hi=>?_⟩;rw[Nat.zero_add];exact(Z.new w t (uF l)).K i (by simp[uF,hi])
theorem Hm.at{w:World}{L:List Value}{l:List Int}(h:Z w g t L)(o:Nat)(hl:(L.drop o).take l.length=uF l):Hm w (some ⟨g,o,none⟩) l:=by
 intro _;refine⟨_,o,J,h.lt,fun i hi=>?_⟩;refine h.K (o+i) ?_;have U:((L.drop o).take l.length)[i]?=some (.int .i64 l[i]):=by rw[hl];simp[uF,hi]
 rw[List.getElem?_take_of_lt hi,List.getElem?_drop]at U;exact U
theorem rrS{w:World}{L L':List Value}{i:Nat}{v:Value}(h:Z w g t L)(he:L.set i v=L'):Z (w.setCell ⟨g,i,none⟩ v) g t L':=he▸h.set i v
theorem acW(vn vm:Value)(At:Option Addr)(ct:Nat)(r:RR)(hr:r.wf)(hn:vn.oneCell'=true)(hm:vm.oneCell'=true)(w:World)(hT:xj w At ct r.tg)(O:uo r.E r.N=33):
  Calls prog 235 #[.agg (vy vn (.slice At r.tg.length ct) vm r).toArray] w (uf (.tuple #[.agg (vy vn tS vm {r with pri:=0,we:=0,po:=0,tg:=[]}).toArray,.int .i64 (if[r.pri,r.we,r.po].all (xN 65535)then tY r.tg else 4)]) w):=by
 obtain⟨vt,hvt⟩:∃v,v=Value.slice At r.tg.length ct:=gp;have ht:vt.oneCell'=true:=nK;rw[<-hvt];have hl:=uP (vn:=vn) (vt:=vt) (vm:=vm) hr;have L1?:=KL (vn:=vn) (vt:=vt) (vm:=vm) (r:=r);have L2?:=KM (vn:=vn) (vt:=vt) (vm:=vm) (r:=r);have L22:=AQ (vn:=vn) (vt:=vt) (vm:=vm) hr;have L24:=Iv (vn:=vn) (vt:=vt) (vm:=vm) hr;have L25:=Iw (vn:=vn) (vt:=vt) (vm:=vm) hr;have L26:=Ix (vn:=vn) (vt:=vt) (vm:=vm) hr;have LS:Hid (((((vy vn vt vm r).set 24 (.int .i64 0)).set 25 (.int .i64 0)).set 26 (.int .i64 0)).set 22 tS=vy vn tS vm {r with pri:=0,we:=0,po:=0,tg:=[]}):=Y (by
  rw[KN hr,Nq (r:={r with pri:=0}) hr,Nr (r:={r with pri:=0,we:=0}) hr,Bo (r:={r with pri:=0,we:=0,po:=0}) hr];rfl)
 have L1c:=Y (wj (r:=r) hn ht hm);have L4c:=Y (wj (vt:=tS) (r:={r with pri:=0,we:=0,po:=0,tg:=[]}) hn J hm);have L4l:=uP (vn:=vn) (vt:=tS) (vm:=vm) (r:={r with pri:=0,we:=0,po:=0,tg:=[]}) hr;have hb:=Y (fun w=>vL r.E r.N w);rw[O]at hb;have aeq:=Y (KR r.tg);have WI:=Y (fun w A h=>Cu 65535 A 3 [r.pri,r.we,r.po] w h ap);generalize vy vn tS vm {r with pri:=0,we:=0,po:=0,tg:=[]}=L4 at*;generalize vy vn vt vm r=L at*;generalize tY r.tg=e at*;generalize hB3:[r.pri,r.we,r.po].all (xN 65535)=b3 at*;generalize r.pri=n1,r.we=n2,r.po=n3 at*;clear hB3;generalize r.E=E,r.N=N at*;clear O;generalize aiD:(if b3=true then e else 4)=res;have afY:=Y aiD;clear aiD;have B0:=Z.new w 119 L;go_enter func235,ntmps235;go_wp2_with(first
  |(refine tO (.load 119 (.tmp 1)) rfl ?_;go_must(refine tP rfl _ _ rfl w.heap.size 0 rfl (Z.alloc (Z.new w 119 L) _) 33 I _ underlying119 rfl uu L (wg I) ?_))
  |(refine tO (.store 119 (.tmp 4) (.tmp 6)) rfl (ab rfl (w.heap.size+1+1) 0 L (Z.vP _ _ vG _ ap) bi bj L1c.out ?_)))
 intro w3 hb3 hg3 hs3;have B1:Z w3 w.heap.size 119 L:=io;have B2:Z w3 (w.heap.size+1) 119 vG:=gY;have B4:Z w3 (w.heap.size+1+1) 119 L:=gH;have HB:al w w3:=gB;clear hb3 hg3 B0;have u1:=B1.K 1 L1?;have u2:=B1.K 2 L2?;clear L1? L2?;go_wp2_with fail;refine(hb.out _).mono ?_;rintro _ w4 ⟨rfl,rfl⟩;clear hb u1 u2;have u22:=B4.K 22 L22;have u24:=B4.K 24 L24;have u25:=B4.K 25 L25;have u26:=B4.K 26 L26;have v24:=B1.K 24 L24;have v25:=B1.K 25 L25;have v26:=B1.K 26 L26;have f22:=B4.frozen 22;have f24:=B4.frozen 24;have f25:=B4.frozen 25;have f26:=B4.frozen 26;go_wp2_with fail;have B4s:=rrS (((B4.set 24 (.int .i64 0)).set 25 (.int .i64 0)).set 26 (.int .i64 0)) LS.out;have hne:w.heap.size≠w.heap.size+1+1:=I;have aia:w.heap.size+1≠w.heap.size+1+1:=I;have B1s:=(((B1.yG (p:=⟨w.heap.size+1+1,24,none⟩) hne (.int .i64 0)).yG (p:=⟨w.heap.size+1+1,25,none⟩) hne (.int .i64 0)).yG (p:=⟨w.heap.size+1+1,26,none⟩) hne (.int .i64 0)).yG (p:=⟨w.heap.size+1+1,22,none⟩) hne tS;have B2s:=(((B2.yG (p:=⟨w.heap.size+1+1,24,none⟩) aia (.int .i64 0)).yG (p:=⟨w.heap.size+1+1,25,none⟩) aia (.int .i64 0)).yG (p:=⟨w.heap.size+1+1,26,none⟩) aia (.int .i64 0)).yG (p:=⟨w.heap.size+1+1,22,none⟩) aia tS;have HBs:=(((HB.setCell (p:=⟨w.heap.size+1+1,24,none⟩) az (.int .i64 0)).setCell (p:=⟨w.heap.size+1+1,25,none⟩) az (.int .i64 0)).setCell (p:=⟨w.heap.size+1+1,26,none⟩) az (.int .i64 0)).setCell (p:=⟨w.heap.size+1+1,22,none⟩) az tS;have hss:((((w3.setCell ⟨w.heap.size+1+1,24,none⟩ (.int .i64 0)).setCell ⟨w.heap.size+1+1,25,none⟩ (.int .i64 0)).setCell ⟨w.heap.size+1+1,26,none⟩ (.int .i64 0)).setCell ⟨w.heap.size+1+1,22,none⟩ tS).heap.size=w.heap.size+1+1+1:=mS;change Calls _ _ _ (World.alloc ((((w3.setCell ⟨w.heap.size+1+1,24,none⟩ (.int .i64 0)).setCell ⟨w.heap.size+1+1,25,none⟩ (.int .i64 0)).setCell ⟨w.heap.size+1+1,26,none⟩ (.int .i64 0)).setCell ⟨w.heap.size+1+1,22,none⟩ tS) _) _;generalize(((w3.setCell ⟨w.heap.size+1+1,24,none⟩ (.int .i64 0)).setCell ⟨w.heap.size+1+1,25,none⟩ (.int .i64 0)).setCell ⟨w.heap.size+1+1,26,none⟩ (.int .i64 0)).setCell ⟨w.heap.size+1+1,22,none⟩ tS=w7 at*;clear B1 B2 B4 HB f22 f24 f25 f26 v24 v25 v26 LS hs3 L24 L25 L26;refine(WI.out _ _ (Hm.new [n1,n2,n3] _ hss.symm 3)).mono ?_;rintro _ w8 ⟨rfl,rfl⟩;clear WI;have B1':=B1s.alloc (.cells (uF [n1,n2,n3]).toArray 3);have B2':=B2s.alloc (.cells (uF [n1,n2,n3]).toArray 3);have B4':=B4s.alloc (.cells (uF [n1,n2,n3]).toArray 3);have HB':=HBs.alloc HBs.size (.cells (uF [n1,n2,n3]).toArray 3);have hs4:(w7.alloc (.cells (uF [n1,n2,n3]).toArray 3)).heap.size=w.heap.size+1+1+1+1:=by simpa using hss
 generalize w7.alloc (.cells (uF [n1,n2,n3]).toArray 3)=w4 at*;clear B1s B2s B4s HBs hss;cases b3 with
 |true=>
  have hr1:e=res:=by simpa using afY.out
  subst hr1;clear afY;go_wp2_with fail;refine wp_region_held_drew (S:=fun w'=>Z w' w.heap.size 119 L/\Z w' (w.heap.size+1+1) 119 L4) (by kernel_rfl) ⟨B1',B4'⟩ (fun M=>?_);refine uZ 0 (some 53) 119 (.tmp 4) ⟨w.heap.size+1+1,0,none⟩ J J J J (by kernel_rfl) (by kernel_rfl) (by kernel_rfl) (fun _ _ _ h=>h) J (fun W hW=>hW.2.wk 119 0 33 I _ underlying119 J uu L4 (wg I)) M ?_;simp only[z]
  (refine ag 1 (some 54) J J (by kernel_rfl) (fun W hW=>rfl) M ?_;simp only[z])
  refine uZ 2 (some 55) 26 (.tmp 54) ⟨w.heap.size,22,none⟩ J J J J (by kernel_rfl) (by kernel_rfl) (by kernel_rfl) (fun _ _ _ h=>h) (by kernel_rfl) (fun W hW=>tV underlying26 J (hW.1.K 22 L22)) M ?_;simp only[z];have HB5:Below w.heap.size w w4.drew:=below_drewN HB' 1;refine zF 3 (some 56) (by kernel_rfl) J J (by kernel_rfl) (v:=.slice (some ⟨w4.drew.heap.size,0,none⟩) 1 1) (w':=w4.drew.alloc (.cells #[vt] 26)) bm ⟨M.1.alloc _,M.2.alloc _⟩ ?_;simp only[z];have AN:=Gv (some ⟨w4.drew.heap.size,0,none⟩) 1 [r.tg] _ (hvt▸Hl.aec (hT.G HB5) w4.drew.heap.size J 26) ap;rw[aeq.out]at AN;refine uO 4 (some 57) 247 #[.slice (some ⟨w4.drew.heap.size,0,none⟩) 1 1] (by kernel_rfl) J J (by kernel_rfl) bm AN ?_;rintro _ w5 ⟨rfl,b5⟩;have aim:al w w5:=b5▸HB5.alloc HB5.size _;have ahb:Z w5 w.heap.size 119 L:=b5▸M.1.alloc _;have aha:Z w5 (w.heap.size+1+1) 119 L4:=b5▸M.2.alloc _;have ahH:Z w5 (w.heap.size+1) 119 vG:=b5▸B2'.drew.alloc _;refine⟨_,J,⟨ahb,aha⟩,?_⟩;clear M B1' B4' B2' HB' HB5 b5 AN;simp only[z];refine vz 5 none 119 (.tmp 2) (.tmp 53) (by kernel_rfl) J J J (by kernel_rfl) (w.heap.size+1) 0 J L4 J ahH bi bp L4c.out ?_;intro w6 hb6 hg6 hs6;rw[Es bi]at hb6;have HB6:al w w6:=jm;have M:Z w6 w.heap.size 119 L/\Z w6 (w.heap.size+1+1) 119 L4:=iO;refine⟨M,?_⟩;clear ahb aha ahH aim hg6;simp only[z]
  (refine ag 6 (some 3) J J (by kernel_rfl) (fun W hW=>rfl) M ?_;simp only[z])
  refine wpAnyH_done (by kernel_rfl) ?_ _;exact pk
 |false=>
  have hr1:(4:Int)=res:=by simpa using afY.out
  subst hr1;clear afY;have B4:=B4';have B2:=B2';have HB:=HB';go_wp2_with(first
   |(refine tO (.load 119 (.tmp 4)) rfl ?_;go_must(refine tP rfl _ _ rfl (w.heap.size+1+1) 0 rfl B4 33 I _ underlying119 rfl uu L4 (wg I) ?_))
   |(refine tO (.store 119 (.tmp 2) (.tmp 52)) rfl (ab rfl (w.heap.size+1) 0 L4 B2 bi bp L4c.out ?_)))
  exact oK
theorem aee(vn vt vm:Value)(r:RR)(hr:r.wf)(hn:vn.oneCell'=true)(ht:vt.oneCell'=true)(hm:vm.oneCell'=true)(w:World)(afB:r.raw.length<=140737488355328)(O:uo r.E r.N=0):
  Calls prog 235 #[.agg (vy vn vt vm r).toArray] w (uf (.tuple #[.agg (vy vn vt vm {r with raw:=[]}).toArray,.int .i64 (if 65535<r.raw.length then 3 else 0)]) w):=by
 have hl:=uP (vn:=vn) (vt:=vt) (vm:=vm) hr;have L1?:=KL (vn:=vn) (vt:=vt) (vm:=vm) (r:=r);have L2?:=KM (vn:=vn) (vt:=vt) (vm:=vm) (r:=r);have L32:=Iy (vn:=vn) (vt:=vt) (vm:=vm) hr;have LS:=Y (KP (vn:=vn) (vt:=vt) (vm:=vm) hr []);have L1c:=Y (wj (r:=r) hn ht hm);have L4c:=Y (wj (r:={r with raw:=[]}) hn ht hm);have L4l:=uP (vn:=vn) (vt:=vt) (vm:=vm) (r:={r with raw:=[]}) hr;have hb:=Y (fun w=>vL r.E r.N w);rw[O]at hb;generalize vy vn vt vm {r with raw:=[]}=L4 at*;generalize vy vn vt vm r=L at*;generalize r.raw=raw,r.E=E,r.N=N at*;clear O;generalize aiD:(if 65535<raw.length then(3:Int)else 0)=res;have afY:=Y aiD;clear aiD;have B0:=Z.new w 119 L;go_enter func235,ntmps235;go_wp2_with(first
  |(refine tO (.load 119 (.tmp 1)) rfl ?_;go_must(refine tP rfl _ _ rfl w.heap.size 0 rfl (Z.alloc (Z.new w 119 L) _) 33 I _ underlying119 rfl uu L (wg I) ?_))
  |(refine tO (.store 119 (.tmp 4) (.tmp 6)) rfl (ab rfl (w.heap.size+1+1) 0 L (Z.vP _ _ vG _ ap) bi bj L1c.out ?_)))
 intro w3 hb3 hg3 hs3;have B1:Z w3 w.heap.size 119 L:=io;have B2:Z w3 (w.heap.size+1) 119 vG:=gY;have B4:Z w3 (w.heap.size+1+1) 119 L:=gH;have HB:al w w3:=gB;clear hb3 hg3 B0;have u1:=B1.K 1 L1?;have u2:=B1.K 2 L2?;clear L1? L2?;go_wp2_with fail;refine(hb.out _).mono ?_;rintro _ w4 ⟨rfl,rfl⟩;clear hb u1 u2;have u32:=B4.K 32 L32;have v32:=B1.K 32 L32;have f32:=B4.frozen 32;have B4s:=rrS B4 LS.out;have hne:w.heap.size≠w.heap.size+1+1:=I;have aia:w.heap.size+1≠w.heap.size+1+1:=I;have B2s:=B2.yG (p:=⟨w.heap.size+1+1,32,none⟩) aia (.string (bs []));have HBs:=HB.setCell (p:=⟨w.heap.size+1+1,32,none⟩) az (.string (bs []));clear B1 B2 B4 HB L32 LS;have B4:=B4s;have B2:=B2s;have HB:=HBs;clear B4s B2s HBs;by_cases anr:65535<raw.length
 ·
  have hr1:(3:Int)=res:=by rw[<-afY.out,if_pos anr]
  have hd:decide (65535<(raw.length:Int))=true:=mw;subst hr1;clear afY;go_wp2_with(first
   |(refine tO (.load 119 (.tmp 4)) rfl ?_;go_must(refine tP rfl _ _ rfl (w.heap.size+1+1) 0 rfl B4 33 I _ underlying119 rfl uu L4 (wg I) ?_))
   |(refine tO (.store 119 (.tmp 2) (.tmp 85)) rfl (ab rfl (w.heap.size+1) 0 L4 B2 bi bp L4c.out ?_)))
  exact oK
 ·
  have hr1:(0:Int)=res:=by rw[<-afY.out,if_neg anr]
  have hd:decide (65535<(raw.length:Int))=false:=ik;subst hr1;clear afY;go_wp2_with(first
   |(refine tO (.load 119 (.tmp 4)) rfl ?_;go_must(refine tP rfl _ _ rfl (w.heap.size+1+1) 0 rfl B4 33 I _ underlying119 rfl uu L4 (wg I) ?_))
   |(refine tO (.store 119 (.tmp 2) (.tmp 86)) rfl (ab rfl (w.heap.size+1) 0 L4 B2 bi bp L4c.out ?_)))
  exact oK
end Go.Proofs.YthnbcmlnpdabhaaGreat
