/-
  Records as cells;what is wrong with a record,plainly.
-/
import Derived.Test.YtakkipnmpmobbaaGreatGCq
import Derived.Test.YtakkipnmpmobbaaGreatGIq
namespace Go.Proofs.YtakkipnmpmobbaaGreat
open _root_.Go.Proofs.Tryz
set_option maxHeartbeats 8000000
open Go.RowKit
set_option maxRecDepth 100000
set_option linter.unusedVariables false
variable {n:List (List UInt8)} {A:Option Addr} {c g:Nat} {t:TypeId}
structure RR where
 name:List (List UInt8)
 Q:Int
 cl:Int
 ttl:Int
 ad:sg
 tg:List (List UInt8)
 ml:List (List UInt8)
 pri:Int
 we:Int
 po:Int
 abY:List Int
 raw:List UInt8
deriving DecidableEq
def sO(l:List Int):List Value:=l.map (Value.int .i64)
def uz(vn vt vm:Value)(r:RR):List Value:=vn:: .int .i64 r.Q:: .int .i64 r.cl:: .int .i64 r.ttl::(r.ad.cells++(vt::vm:: .int .i64 r.pri:: .int .i64 r.we:: .int .i64 r.po::(sO r.abY++[.string (bs r.raw)])))
def RR.wf(r:RR):Prop:=r.ad.ip.length=16/\r.abY.length=5
section
variable {vn vt vm:Value} {r:RR}
theorem uu(h:r.wf):(uz vn vt vm r).length=33:=by simp[uz,r.ad.rY h.1,sO,h.2]
theorem Ln:(uz vn vt vm r)[1]?=some (.int .i64 r.Q):=rfl
theorem Lo:(uz vn vt vm r)[2]?=some (.int .i64 r.cl):=rfl
theorem IQ(h:r.wf):((uz vn vt vm r).drop 4).take 18=r.ad.cells:=by
 simp only[uz,List.drop_succ_cons,List.drop_zero];exact List.take_left' (r.ad.rY h.1)
theorem zZ(h:r.wf)(k:Nat):(uz vn vt vm r)[22+k]?=(vt::vm:: .int .i64 r.pri:: .int .i64 r.we:: .int .i64 r.po::(sO r.abY++[.string (bs r.raw)]))[k]?:=by
 have e:uz vn vt vm r=(vn:: .int .i64 r.Q:: .int .i64 r.cl:: .int .i64 r.ttl::r.ad.cells)++(vt::vm:: .int .i64 r.pri:: .int .i64 r.we:: .int .i64 r.po::(sO r.abY++[.string (bs r.raw)])):=km;have E:(vn:: .int .i64 r.Q:: .int .i64 r.cl:: .int .i64 r.ttl::r.ad.cells).length=22:=iA;rw[e,List.getElem?_append_right Y,E,Nat.add_sub_cancel_left]
theorem DR(h:r.wf):(uz vn vt vm r)[22]?=some vt:=zZ h 0
theorem To(h:r.wf):(uz vn vt vm r)[23]?=some vm:=zZ h 1
theorem Tp(h:r.wf):(uz vn vt vm r)[24]?=some (.int .i64 r.pri):=zZ h 2
theorem Tq(h:r.wf):(uz vn vt vm r)[25]?=some (.int .i64 r.we):=zZ h 3
theorem Tr(h:r.wf):(uz vn vt vm r)[26]?=some (.int .i64 r.po):=zZ h 4
theorem Ts(h:r.wf):(uz vn vt vm r)[32]?=some (.string (bs r.raw)):=by
 have:=zZ (vn:=vn) (vt:=vt) (vm:=vm) h 10;rw[this];simp[sO,h.2]
theorem IU(h:r.wf):((uz vn vt vm r).drop 27).take 5=sO r.abY:=by
 have e:uz vn vt vm r=(vn:: .int .i64 r.Q:: .int .i64 r.cl:: .int .i64 r.ttl::(r.ad.cells++[vt,vm,.int .i64 r.pri,.int .i64 r.we,.int .i64 r.po]))++(sO r.abY++[.string (bs r.raw)]):=km;have E:(vn:: .int .i64 r.Q:: .int .i64 r.cl:: .int .i64 r.ttl::(r.ad.cells++[vt,vm,.int .i64 r.pri,.int .i64 r.we,.int .i64 r.po])).length=27:=iA;rw[e,<-E,List.drop_left];exact List.take_left' aX
theorem uX(hn:vn.oneCell'=true)(ht:vt.oneCell'=true)(hm:vm.oneCell'=true):∀v∈uz vn vt vm r,v.oneCell'=true:=by
 intro v hv;simp only[uz,List.mem_cons,List.mem_append]at hv;rcases hv with rfl|rfl|rfl|rfl|hv|rfl|rfl|rfl|rfl|rfl|hv|hv
 ·exact hn
 ·rfl
 ·rfl
 ·rfl
 ·exact r.ad.tm v hv
 ·exact ht
 ·exact hm
 ·rfl
 ·rfl
 ·rfl
 ·exact rp
 ·
  rcases hv with rfl|hv
  ·rfl
  ·cases hv
end
def yJ(w:World)(cs:List Value)(r:RR):Prop:=
 ∃An cn At ct Am cm,cs=uz (.slice An r.name.length cn) (.slice At r.tg.length ct) (.slice Am r.ml.length cm) r/\r.wf/\wA w An cn r.name/\wA w At ct r.tg/\wA w Am cm r.ml/\r.raw.length<=140737488355328
theorem yJ.G{w w':World}{cs:List Value}{r:RR}(h:yJ w cs r)(Z:ao w w'):yJ w' cs r:=by
 obtain⟨An,cn,At,ct,Am,cm,U,F,h3,h4,h5,h6⟩:=h;exact⟨An,cn,At,ct,Am,cm,U,F,h3.G Z,h4.G Z,h5.G Z,h6⟩
theorem ta:(prog.info? 201).map (·.size)=some 33:=by kernel_rfl
theorem wM:(prog.info? 184).map (·.size)=some 5:=by kernel_rfl
def sf(Q cl:Int):Int:=if cl=1/\(Q=1\/Q=28\/Q=5\/Q=12\/Q=33\/Q=6)then Q else 0
def xG(most n:Int):Bool:=decide (0<=n)&&decide (n<=most)
def wT(r:RR):Int:=
 if sf r.Q r.cl=1 then(if r.ad.check≠0\/r.ad.fam≠4\/r.ad.az≠0 then 10 else 0)
 else if sf r.Q r.cl=28 then(if r.ad.check≠0\/r.ad.fam≠6\/r.ad.az≠0 then 10 else 0)
 else if sf r.Q r.cl=5\/sf r.Q r.cl=12 then rR r.tg
 else if sf r.Q r.cl=33 then(if([r.pri,r.we,r.po].all (xG 65535))then rR r.tg else 4)
 else if sf r.Q r.cl=6 then(if rR r.tg≠0 then rR r.tg else if rR r.ml≠0 then rR r.ml else if r.abY.all (xG 4294967295)then 0 else 4)
 else if 65535<r.raw.length then 3 else 0
def vL(r:RR):RR:=
 if sf r.Q r.cl=1\/sf r.Q r.cl=28 then{r with ad:=sg.zero}
 else if sf r.Q r.cl=5\/sf r.Q r.cl=12 then{r with tg:=[]}
 else if sf r.Q r.cl=33 then{r with pri:=0,we:=0,po:=0,tg:=[]}
 else if sf r.Q r.cl=6 then{r with tg:=[],ml:=[],abY:=[0,0,0,0,0]}
 else{r with raw:=[]}
def zF(r:RR):Bool:=decide (r.ad=sg.zero)&&decide (r.tg=[])&&decide (r.ml=[])&&decide (r.pri=0)&&decide (r.we=0)&&decide (r.po=0)&&decide (r.abY=[0,0,0,0,0])&&decide (r.raw=[])
def r8(r:RR):Int:=
 if rR r.name≠0 then rR r.name
 else if ¬([r.Q,r.cl].all (xG 65535))\/¬xG 4294967295 r.ttl then 4
 else if wT r≠0 then wT r
 else if zF (vL r)then 0 else 5
theorem ti(Q cl:Int)(w:World):Calls prog 156 #[.int .i64 Q,.int .i64 cl] w (uQ (.int .i64 (sf Q cl)) w):=by
 by_cases U:cl=1
 ·
  subst U;by_cases O:Q=1\/Q=28\/Q=5\/Q=12\/Q=33\/Q=6
  ·
   have hr:sf Q 1=Q:=by unfold sf;rw[if_pos ⟨I,O⟩]
   rw[hr];clear hr;rcases O with rfl|rfl|rfl|rfl|rfl|rfl;all_goals
    go_enter func156,ntmps156;go_wp2;exact mY
  ·
   have hr:sf Q 1=0:=by unfold sf;rw[if_neg (fun h=>O h.2)]
   rw[hr];have e1:(Q==1)=false:=aB;have e2:(Q==28)=false:=aB;have e3:(Q==5)=false:=aB;have e4:(Q==12)=false:=aB;have e5:(Q==33)=false:=aB;have e6:(Q==6)=false:=aB;clear O hr;go_enter func156,ntmps156;go_wp2;exact mY
 ·
  have hr:sf Q cl=0:=by unfold sf;rw[if_neg (fun h=>U h.1)]
  rw[hr];have e1:(cl !=1)=true:=iJ;clear U hr;go_enter func156,ntmps156;go_wp2;exact mY
theorem ach(m n:Int):xG m n=true↔0<=n/\n<=m:=by simp[xG]
theorem aeA{m n:Int}(h:xG m n=false):n<0\/m<n:=by simp[xG]at h;omega
theorem zG(m:Int)(A:Option Addr)(c:Nat)(l:List Int)(w:World)(hA:ED w A l)(E:l.length<=281474976710656):Calls prog 152 #[.int .i64 m,.slice A l.length c] w (uQ (.bool (l.all (xG m))) w):=by
 go_enter func152,ntmps152;go_wp2_with fail;go_loop[9] (fun i=>∃k:Nat,k<=l.length/\i= .int .i64 k/\Hid (∀j (hj:j<l.length),j<k->xG m l[j]=true)) (fun i=>l.length-(intOf i).toNat)
 case atStart=>exact⟨0,Nat.zero_le _,I,J (fun j hj h=>by omega)⟩
 case round=>
  obtain⟨k,O,rfl,H⟩:=hrel;by_cases aA:k<l.length
  ·
   have h1:(k:Int)<l.length:=Y;obtain⟨b,off,rfl,_,xa⟩:=hA Y;have c1:=xa k aA;clear xa;cases Z:xG m l[k]with
   |true=>obtain⟨U,F⟩:=(ach _ _).1 Z;have HB:=J Z;clear Z;obtain⟨x,hx⟩:∃x,x=l[k]:=gh;rw[<-hx]at c1 U F;clear hx;have d1:decide (x<0)=false:=je;have d2:decide (m<x)=false:=je;exact nB
   |false=>
    have hno:l.all (xG m)=false:=by rw[List.all_eq_false];exact⟨l[k],List.getElem_mem aA,aM⟩
    have HN:=J hno;have h12:=aeA Z;generalize l[k]=x at*;clear Z hno;by_cases U:x<0
    ·have d1:decide (x<0)=true:=decide_eq_true U;exact qQ
    ·have d1:decide (x<0)=false:=decide_eq_false U;have F:m<x:=Y;have d2:decide (m<x)=true:=decide_eq_true F;clear h12;exact qQ
  ·
   have h1:¬(k:Int)<l.length:=Y;have aut:l.all (xG m)=true:=by rw[List.all_eq_true];intro x hx;obtain⟨j,hj,rfl⟩:=List.getElem_of_mem hx;exact H.out j hj Y
   have HY:=J aut;clear aut;go_wp2_with fail;go_ret;exact uQ.mk (xJ HY.out.symm) I
def xo:List (List (List UInt8))->Int
 |[]=>0
 |n::ls=>if rR n≠0 then rR n else xo ls
theorem Ww{ls:List (List (List UInt8))}(h:∀j (hj:j<ls.length),rR ls[j]=0):xo ls=0:=by
 induction ls with
 |nil=>rfl
 |cons n ls ih=>have h0:=h 0 ar;simp at h0;unfold xo;exact qn
theorem Tt{ls:List (List (List UInt8))}{k:Nat}(O:k<ls.length)(h:∀j (hj:j<ls.length),j<k->rR ls[j]=0)(Z:rR ls[k]≠0):xo ls=rR ls[k]:=by
 induction ls generalizing k with
 |nil=>simp at O
 |cons n ls ih=>
  cases k with
  |zero=>simp only[List.getElem_cons_zero]at Z⊢;unfold xo;rw[if_pos Z]
  |succ k=>have h0:=h 0 ar Y;simp at h0;unfold xo;exact pn
theorem DT(A:Option Addr)(c:Nat)(ls:List (List (List UInt8)))(w:World)(hA:Cb w A ls)(E:ls.length<=281474976710656):Calls prog 163 #[.slice A ls.length c] w (uQ (.int .i64 (xo ls)) w):=by
 go_enter func163,ntmps163;go_wp2_with fail;go_loop[8] (fun i=>∃k:Nat,k<=ls.length/\i= .int .i64 k/\Hid (∀j (hj:j<ls.length),j<k->rR ls[j]=0)) (fun i=>ls.length-(intOf i).toNat)
 case atStart=>exact⟨0,Nat.zero_le _,I,J (fun j hj h=>by omega)⟩
 case round=>
  obtain⟨k,O,rfl,H⟩:=hrel;by_cases aA:k<ls.length
  ·
   have h1:(k:Int)<ls.length:=Y;obtain⟨b,off,rfl,_,xa⟩:=hA Y;obtain⟨Ai,ci,c1,hR⟩:=xa k aA;have C:=wK Ai ci ls[k] w hR.1 (by have:=hR.2.2.1;omega);clear xa;by_cases h0:rR ls[k]=0
   ·
    rw[h0]at C;have H0:=J h0;clear h0;go_wp2_with fail;refine C.mono ?_;rintro _ B ⟨rfl,rfl⟩;clear C;go_wp2_with fail;go_round
    case rel=>exact⟨k+1,Y,fQ,J (fun j hj h=>by
     by_cases e:j=k
     ·subst e;exact H0.out
     ·
      exact H.out j hj Y)⟩
    case measure=>simp[intOf];omega
   ·have Z:=J (Tt aA H.out h0);generalize rR ls[k]=e at*;have h0':(e !=0)=true:=gL;clear h0;go_wp2_with fail;refine C.mono ?_;rintro _ B ⟨rfl,rfl⟩;clear C;go_wp2_with fail;go_ret;exact uQ.mk (wv Z.out.symm) I
  ·have h1:¬(k:Int)<ls.length:=Y;have hy:=J (Ww (fun j hj=>H.out j hj Y));go_wp2_with fail;go_ret;exact uQ.mk (wv hy.out.symm) I
def adE(a:sg)(f:Int):Int:=if a.check≠0\/a.fam≠f\/a.az≠0 then 10 else 0
theorem GL(x:sg)(f:Int)(hx:x.ip.length=16)(w:World):Calls prog 162 #[.agg x.cells.toArray,.int .i64 f] w (rW (.int .i64 (adE x f)) w):=by
 have hcl:=x.rY hx;have g0:∀hi:0<x.cells.length,x.cells[0]'hi= .int .i64 x.fam:=xN I;have g17:∀hi:17<x.cells.length,x.cells[17]'hi= .int .i64 x.az:=kj;have C:=J (yt x hx);have Z:=N.new w 67 x.cells;have hld:((x.cells).drop 0).take 18=x.cells:=by rw[List.drop_zero,List.take_of_length_le Y]
 have HL:=J hld;have c0:x.cells[0]?=some (.int .i64 x.fam):=rfl;have c17:=x.Nu hx;clear hld;have he:adE x f=if x.check≠0\/x.fam≠f\/x.az≠0 then 10 else 0:=rfl
 generalize adE x f=er at*;have HE:=J he;clear he;obtain⟨ck,hck⟩:∃ck,ck=x.check:=gh;rw[<-hck]at C HE;clear hck;generalize x.fam=fm,x.az=zn,x.cells=L at*;go_enter func162,ntmps162;go_wp2_with(refine rF (.load 67 (.tmp 2)) I ?_;go_must(refine rG I _ _ I w.heap.size 0 I Z 18 Y _ underlying67 I uL L HL.out ?_));go_wp2_with fail;refine(C.out _).mono ?_;rintro _ B ⟨rfl,b1⟩;have hb1:=Z.G b1 ar;have hB:=rC ((Below.refl _ w).alloc (Nat.le_refl _) (.cells L.toArray 67)) ar b1;have u0:=hb1.rD 0 c0;have u17:=hb1.rD 17 c17;clear b1 Z hb1 C HL g0 g17;by_cases U:ck=0
 ·
  have e1:(ck !=0)=false:=iJ;by_cases F:fm=f
  ·
   have e2:(fm !=f)=false:=fT;by_cases h3:zn=0
   ·have e3:(zn !=0)=false:=lK;have hr:=HE.out;rw[if_neg (by simp[U,F,h3])]at hr;subst hr;clear HE;clear U F h3;exact oj
   ·have e3:(zn !=0)=true:=lK;have hr:=HE.out;rw[if_pos (.inr (.inr h3))]at hr;subst hr;clear HE;clear U F h3;exact oj
  ·have e2:(fm !=f)=true:=fT;have hr:=HE.out;rw[if_pos (.inr (.inl F))]at hr;subst hr;clear HE;clear U F;exact oj
 ·have e1:(ck !=0)=true:=iJ;have hr:=HE.out;rw[if_pos (.inl U)]at hr;subst hr;clear HE;clear U;exact oj
set_option linter.unusedSimpArgs false
def rI:Value:=.slice none 0 0
def RR.zero:RR:=⟨[],0,0,0,sg.zero,[],[],0,0,0,[0,0,0,0,0],[]⟩
def vM:List Value:=uz rI rI rI RR.zero
theorem Bd:vM.length=33:=uu ⟨I,I⟩
section
variable {vn vt vm:Value} {r:RR}
theorem Lp(h:r.wf)(a:sg):(uz vn vt vm r).take 4++a.cells++(uz vn vt vm r).drop 22=uz vn vt vm {r with ad:=a}:=by
 have e:(uz vn vt vm r).drop 22=(vt::vm:: .int .i64 r.pri:: .int .i64 r.we:: .int .i64 r.po::(sO r.abY++[.string (bs r.raw)])):=by have e2:uz vn vt vm r=(vn:: .int .i64 r.Q:: .int .i64 r.cl:: .int .i64 r.ttl::r.ad.cells)++(vt::vm:: .int .i64 r.pri:: .int .i64 r.we:: .int .i64 r.po::(sO r.abY++[.string (bs r.raw)])):=km;have E:(vn:: .int .i64 r.Q:: .int .i64 r.cl:: .int .i64 r.ttl::r.ad.cells).length=22:=iA;rw[e2,<-E,List.drop_left]
 rw[e];simp[uz]
end
theorem Cp{L sub:List Value}(h:L.length=sub.length):L.take 0++sub++L.drop (0+sub.length)=sub:=by
 rw[List.take_zero,List.nil_append,Nat.zero_add,List.drop_of_length_le Y,List.append_nil]
theorem sg.Ze:sg.zero.cells.length=18:=sg.zero.rY I
theorem afE(vn vt vm:Value)(r:RR)(hr:r.wf)(hn:vn.oneCell'=true)(ht:vt.oneCell'=true)(hm:vm.oneCell'=true)(w:World)(O:sf r.Q r.cl=1):
  Calls prog 153 #[.agg (uz vn vt vm r).toArray] w (rW (.tuple #[.agg (uz vn vt vm {r with ad:=sg.zero}).toArray,.int .i64 (adE r.ad 4)]) w):=by
 have E:=uu (vn:=vn) (vt:=vt) (vm:=vm) hr;have L1?:=Ln (vn:=vn) (vt:=vt) (vm:=vm) (r:=r);have L2?:=Lo (vn:=vn) (vt:=vt) (vm:=vm) (r:=r);have LA:=J (IQ (vn:=vn) (vt:=vt) (vm:=vm) hr);have LS:=J (Lp (vn:=vn) (vt:=vt) (vm:=vm) hr sg.zero);have L1c:=J (uX (r:=r) hn ht hm);have L4c:=J (uX (r:={r with ad:=sg.zero}) hn ht hm);have L4l:=uu (vn:=vn) (vt:=vt) (vm:=vm) (r:={r with ad:=sg.zero}) ⟨I,hr.2⟩;have al:=J (fun w=>ti r.Q r.cl w);rw[O]at al;have AD:=J (GL r.ad 4 hr.1);generalize uz vn vt vm {r with ad:=sg.zero}=L4 at*;generalize uz vn vt vm r=L at*;generalize adE r.ad 4=e at*;generalize r.ad.cells=LAd,r.Q=Q,r.cl=cl at*;clear O;have B0:=N.new w 201 L;go_enter func153,ntmps153;go_wp2_with(first
  |(refine rF (.load 201 (.tmp 1)) rfl ?_;go_must(refine rG rfl _ _ rfl w.heap.size 0 rfl (N.alloc (N.new w 201 L) _) 33 Y _ underlying201 rfl ta L (uH Y) ?_))
  |(refine rF (.store 201 (.tmp 4) (.tmp 6)) rfl (ab rfl (w.heap.size+1+1) 0 L (N.uE _ _ vM _ ar) a7 a9 L1c.out ?_)))
 intro w3 hb3 hg3 hs3;have B1:N w3 w.heap.size 201 L:=gO;have B2:N w3 (w.heap.size+1) 201 vM:=gI;have B4:N w3 (w.heap.size+1+1) 201 L:=gB;have HB:ao w w3:=gj;clear hb3 hg3 B0;have u1:=B1.rD 1 L1?;have u2:=B1.rD 2 L2?;clear L1? L2?;go_wp2_with fail;refine(al.out _).mono ?_;rintro _ w4 ⟨rfl,rfl⟩;clear al u1 u2;go_wp2_with(refine rF (.store 67 (.tmp 15) (.tmp 14)) I (ab I (w.heap.size+1+1) 4 sg.zero.cells B4 (by rw[E];decide) uL (sg.tm _) ?_));intro w4 hb4 hg4 hs4;have B1':=B1.grown hg4 aB;have B2':=B2.grown hg4 ar;have B4':N w4 (w.heap.size+1+1) 201 L4:=ja;have HB':ao w w4:=rE HB hg4 HB.size Y;clear hb4 hg4 B1 B2 B4 HB;go_wp2_with fail;refine wp_region_held_drew (S:=fun w'=>N w' w.heap.size 201 L/\N w' (w.heap.size+1+1) 201 L4) (by kernel_rfl) ⟨B1',B4'⟩ (fun hS=>?_);refine uW 0 (some 16) 201 (.tmp 4) ⟨w.heap.size+1+1,0,none⟩ I I I I (by kernel_rfl) (by kernel_rfl) (by kernel_rfl) (fun _ _ _ h=>h) I (fun W hW=>hW.2.tW 201 0 33 Y _ underlying201 I ta L4 (uH Y)) hS ?_;simp only[X]
 (refine ah 1 (some 17) I I (by kernel_rfl) (fun W hW=>rfl) hS ?_;simp only[X])
 refine uW 2 (some 18) 67 (.tmp 17) ⟨w.heap.size,4,none⟩ I I I I (by kernel_rfl) (by kernel_rfl) (by kernel_rfl) (fun _ _ _ h=>h) (by kernel_rfl) (fun W hW=>hW.1.tW 67 4 18 Y _ underlying67 I uL LAd LA.out) hS ?_;simp only[X];refine su 3 (some 19) 162 #[.agg LAd.toArray,.int .i64 4] (by kernel_rfl) I I (by kernel_rfl) bc (AD.out _) ?_;rintro _ w5 ⟨rfl,b5⟩;have aiW:=hS.1.G b5 hS.1.lt;have aiV:=hS.2.G b5 hS.2.lt;have ajk:=B2'.drew.G b5 B2'.drew.lt;have akk:ao w w5:=ke;refine⟨_,I,⟨aiW,aiV⟩,?_⟩;clear hS B1' B4' B2' HB' b5;simp only[X];refine wL 4 none 201 (.tmp 2) (.tmp 16) (by kernel_rfl) I I I (by kernel_rfl) (w.heap.size+1) 0 I L4 I ajk a7 bd L4c.out ?_;intro w6 hb6 hg6 hs6;rw[Cp a7]at hb6;have HB6:ao w w6:=iO;have hS:N w6 w.heap.size 201 L/\N w6 (w.heap.size+1+1) 201 L4:=il;refine⟨hS,?_⟩;clear aiW aiV ajk akk hg6;simp only[X]
 (refine ah 5 (some 3) I I (by kernel_rfl) (fun W hW=>rfl) hS ?_;simp only[X])
 refine wpAnyH_done (by kernel_rfl) ?_ _;exact nj
theorem aeC(vn vt vm:Value)(r:RR)(hr:r.wf)(hn:vn.oneCell'=true)(ht:vt.oneCell'=true)(hm:vm.oneCell'=true)(w:World)(O:sf r.Q r.cl=28):
  Calls prog 153 #[.agg (uz vn vt vm r).toArray] w (rW (.tuple #[.agg (uz vn vt vm {r with ad:=sg.zero}).toArray,.int .i64 (adE r.ad 6)]) w):=by
 have E:=uu (vn:=vn) (vt:=vt) (vm:=vm) hr;have L1?:=Ln (vn:=vn) (vt:=vt) (vm:=vm) (r:=r);have L2?:=Lo (vn:=vn) (vt:=vt) (vm:=vm) (r:=r);have LA:=J (IQ (vn:=vn) (vt:=vt) (vm:=vm) hr);have LS:=J (Lp (vn:=vn) (vt:=vt) (vm:=vm) hr sg.zero);have L1c:=J (uX (r:=r) hn ht hm);have L4c:=J (uX (r:={r with ad:=sg.zero}) hn ht hm);have L4l:=uu (vn:=vn) (vt:=vt) (vm:=vm) (r:={r with ad:=sg.zero}) ⟨I,hr.2⟩;have al:=J (fun w=>ti r.Q r.cl w);rw[O]at al;have AD:=J (GL r.ad 6 hr.1);generalize uz vn vt vm {r with ad:=sg.zero}=L4 at*;generalize uz vn vt vm r=L at*;generalize adE r.ad 6=e at*;generalize r.ad.cells=LAd,r.Q=Q,r.cl=cl at*;clear O;have B0:=N.new w 201 L;go_enter func153,ntmps153;go_wp2_with(first
  |(refine rF (.load 201 (.tmp 1)) rfl ?_;go_must(refine rG rfl _ _ rfl w.heap.size 0 rfl (N.alloc (N.new w 201 L) _) 33 Y _ underlying201 rfl ta L (uH Y) ?_))
  |(refine rF (.store 201 (.tmp 4) (.tmp 6)) rfl (ab rfl (w.heap.size+1+1) 0 L (N.uE _ _ vM _ ar) a7 a9 L1c.out ?_)))
 intro w3 hb3 hg3 hs3;have B1:N w3 w.heap.size 201 L:=gO;have B2:N w3 (w.heap.size+1) 201 vM:=gI;have B4:N w3 (w.heap.size+1+1) 201 L:=gB;have HB:ao w w3:=gj;clear hb3 hg3 B0;have u1:=B1.rD 1 L1?;have u2:=B1.rD 2 L2?;clear L1? L2?;go_wp2_with fail;refine(al.out _).mono ?_;rintro _ w4 ⟨rfl,rfl⟩;clear al u1 u2;go_wp2_with(refine rF (.store 67 (.tmp 23) (.tmp 22)) I (ab I (w.heap.size+1+1) 4 sg.zero.cells B4 (by rw[E];decide) uL (sg.tm _) ?_));intro w4 hb4 hg4 hs4;have B1':=B1.grown hg4 aB;have B2':=B2.grown hg4 ar;have B4':N w4 (w.heap.size+1+1) 201 L4:=ja;have HB':ao w w4:=rE HB hg4 HB.size Y;clear hb4 hg4 B1 B2 B4 HB;go_wp2_with fail;refine wp_region_held_drew (S:=fun w'=>N w' w.heap.size 201 L/\N w' (w.heap.size+1+1) 201 L4) (by kernel_rfl) ⟨B1',B4'⟩ (fun hS=>?_);refine uW 0 (some 24) 201 (.tmp 4) ⟨w.heap.size+1+1,0,none⟩ I I I I (by kernel_rfl) (by kernel_rfl) (by kernel_rfl) (fun _ _ _ h=>h) I (fun W hW=>hW.2.tW 201 0 33 Y _ underlying201 I ta L4 (uH Y)) hS ?_;simp only[X]
 (refine ah 1 (some 25) I I (by kernel_rfl) (fun W hW=>rfl) hS ?_;simp only[X])
 refine uW 2 (some 26) 67 (.tmp 25) ⟨w.heap.size,4,none⟩ I I I I (by kernel_rfl) (by kernel_rfl) (by kernel_rfl) (fun _ _ _ h=>h) (by kernel_rfl) (fun W hW=>hW.1.tW 67 4 18 Y _ underlying67 I uL LAd LA.out) hS ?_;simp only[X];refine su 3 (some 27) 162 #[.agg LAd.toArray,.int .i64 6] (by kernel_rfl) I I (by kernel_rfl) bc (AD.out _) ?_;rintro _ w5 ⟨rfl,b5⟩;have aiW:=hS.1.G b5 hS.1.lt;have aiV:=hS.2.G b5 hS.2.lt;have ajk:=B2'.drew.G b5 B2'.drew.lt;have akk:ao w w5:=ke;refine⟨_,I,⟨aiW,aiV⟩,?_⟩;clear hS B1' B4' B2' HB' b5;simp only[X];refine wL 4 none 201 (.tmp 2) (.tmp 24) (by kernel_rfl) I I I (by kernel_rfl) (w.heap.size+1) 0 I L4 I ajk a7 bd L4c.out ?_;intro w6 hb6 hg6 hs6;rw[Cp a7]at hb6;have HB6:ao w w6:=iO;have hS:N w6 w.heap.size 201 L/\N w6 (w.heap.size+1+1) 201 L4:=il;refine⟨hS,?_⟩;clear aiW aiV ajk akk hg6;simp only[X]
 (refine ah 5 (some 3) I I (by kernel_rfl) (fun W hW=>rfl) hS ?_;simp only[X])
 refine wpAnyH_done (by kernel_rfl) ?_ _;exact nj
section
variable {vn vt vm:Value} {r:RR}
theorem z5(h:r.wf)(k:Nat)(v:Value):(uz vn vt vm r).set (22+k) v=(vn:: .int .i64 r.Q:: .int .i64 r.cl:: .int .i64 r.ttl::r.ad.cells)++(vt::vm:: .int .i64 r.pri:: .int .i64 r.we:: .int .i64 r.po::(sO r.abY++[.string (bs r.raw)])).set k v:=by
 have e2:uz vn vt vm r=(vn:: .int .i64 r.Q:: .int .i64 r.cl:: .int .i64 r.ttl::r.ad.cells)++(vt::vm:: .int .i64 r.pri:: .int .i64 r.we:: .int .i64 r.po::(sO r.abY++[.string (bs r.raw)])):=km;have E:(vn:: .int .i64 r.Q:: .int .i64 r.cl:: .int .i64 r.ttl::r.ad.cells).length=22:=iA;rw[e2,List.set_append_right _ _ Y,E,Nat.add_sub_cancel_left]
theorem Fy(h:r.wf)(v:Value):(uz vn vt vm r).set 22 v=uz vn v vm r:=by rw[z5 h 0];simp[uz]
theorem Wx(h:r.wf)(v:Value):(uz vn vt vm r).set 23 v=uz vn vt v r:=by rw[z5 h 1];simp[uz]
theorem Tu(h:r.wf)(x:Int):(uz vn vt vm r).set 24 (.int .i64 x)=uz vn vt vm {r with pri:=x}:=by rw[z5 h 2];simp[uz]
theorem Wy(h:r.wf)(x:Int):(uz vn vt vm r).set 25 (.int .i64 x)=uz vn vt vm {r with we:=x}:=by rw[z5 h 3];simp[uz]
theorem Wz(h:r.wf)(x:Int):(uz vn vt vm r).set 26 (.int .i64 x)=uz vn vt vm {r with po:=x}:=by rw[z5 h 4];simp[uz]
theorem Tv(h:r.wf)(x:List UInt8):(uz vn vt vm r).set 32 (.string (bs x))=uz vn vt vm {r with raw:=x}:=by
 rw[z5 h 10];have e:(sO r.abY++[Value.string (bs r.raw)]).set 5 (.string (bs x))=sO r.abY++[.string (bs x)]:=by rw[List.set_append_right _ _ aX];simp[sO,h.2]
 simp[uz,e]
theorem PX(h:r.wf)(l:List Int)(E:l.length=5):(uz vn vt vm r).take 27++sO l++(uz vn vt vm r).drop 32=uz vn vt vm {r with abY:=l}:=by
 have e:uz vn vt vm r=(vn:: .int .i64 r.Q:: .int .i64 r.cl:: .int .i64 r.ttl::(r.ad.cells++[vt,vm,.int .i64 r.pri,.int .i64 r.we,.int .i64 r.po]))++(sO r.abY++[.string (bs r.raw)]):=km;have E:(vn:: .int .i64 r.Q:: .int .i64 r.cl:: .int .i64 r.ttl::(r.ad.cells++[vt,vm,.int .i64 r.pri,.int .i64 r.we,.int .i64 r.po])).length=27:=iA;have e1:(uz vn vt vm r).take 27=(vn:: .int .i64 r.Q:: .int .i64 r.cl:: .int .i64 r.ttl::(r.ad.cells++[vt,vm,.int .i64 r.pri,.int .i64 r.we,.int .i64 r.po])):=by rw[e,<-E,List.take_left]
 have e2:(uz vn vt vm r).drop 32=[.string (bs r.raw)]:=by rw[e,show 32=27+5 from I,<-List.drop_drop,<-E,List.drop_left];exact List.drop_left' aX
 rw[e1,e2];simp[uz]
end
theorem IV(n:List (List UInt8)):xo [n]=rR n:=by simp only[xo];split<;>simp_all
theorem Cb.afF{w:World}(h:wA w A c n)(k:Nat)(O:k=w.heap.size)(t:TypeId):Cb (w.alloc (.cells #[.slice A n.length c] t)) (some ⟨k,0,none⟩) [n]:=by
 intro _;subst O;refine⟨_,0,I,ar,fun i hi=>?_⟩;have hi0:i=0:=by simp at hi;exact hi
 subst hi0;exact⟨A,c,(N.new w t [.slice A n.length c]).rD 0 I,h.G ((Below.refl _ _).alloc (Nat.le_refl _) _)⟩
theorem Cb.agD{w:World}{Hh:Option Addr}{d:Nat}{m:List (List UInt8)}(h:wA w A c n)(F:wA w Hh d m)(k:Nat)(O:k=w.heap.size)(t:TypeId):Cb (w.alloc (.cells #[.slice A n.length c,.slice Hh m.length d] t)) (some ⟨k,0,none⟩) [n,m]:=by
 intro _;subst O;refine⟨_,0,I,ar,fun i hi=>?_⟩;have Z:=(Below.refl w.heap.size w).alloc (Nat.le_refl _) (.cells #[.slice A n.length c,.slice Hh m.length d] t);have hb1:=N.new w t [.slice A n.length c,.slice Hh m.length d];have hi0:i=0\/i=1:=kO;rcases hi0 with rfl|rfl
 ·exact⟨A,c,hb1.rD 0 I,h.G Z⟩
 ·exact⟨Hh,d,hb1.rD 1 I,F.G Z⟩
theorem afG(vn vm:Value)(At:Option Addr)(ct:Nat)(r:RR)(hr:r.wf)(hn:vn.oneCell'=true)(hm:vm.oneCell'=true)(w:World)(hT:wA w At ct r.tg)(O:sf r.Q r.cl=5\/sf r.Q r.cl=12):
  Calls prog 153 #[.agg (uz vn (.slice At r.tg.length ct) vm r).toArray] w (rW (.tuple #[.agg (uz vn rI vm {r with tg:=[]}).toArray,.int .i64 (rR r.tg)]) w):=by
 obtain⟨vt,hvt⟩:∃v,v=Value.slice At r.tg.length ct:=gh;have ht:vt.oneCell'=true:=lR;rw[<-hvt];have E:=uu (vn:=vn) (vt:=vt) (vm:=vm) hr;have L1?:=Ln (vn:=vn) (vt:=vt) (vm:=vm) (r:=r);have L2?:=Lo (vn:=vn) (vt:=vt) (vm:=vm) (r:=r);have L22:=DR (vn:=vn) (vt:=vt) (vm:=vm) hr;have LS:=J (Fy (vn:=vn) (vt:=vt) (vm:=vm) hr rI);have L1c:=J (uX (r:=r) hn ht hm);have L4c:=J (uX (vt:=rI) (r:={r with tg:=[]}) hn I hm);have L4l:=uu (vn:=vn) (vt:=rI) (vm:=vm) (r:={r with tg:=[]}) hr;have al:=J (fun w=>ti r.Q r.cl w);have h2:=J (IV r.tg);change Hid (_=uz vn rI vm {r with tg:=[]})at LS;generalize uz vn rI vm {r with tg:=[]}=L4 at*;generalize uz vn vt vm r=L at*;generalize rR r.tg=e at*;generalize sf r.Q r.cl=k at*;generalize r.Q=Q,r.cl=cl at*;rcases O with rfl|rfl;all_goals
  have B0:=N.new w 201 L;go_enter func153,ntmps153;go_wp2_with(first
   |(refine rF (.load 201 (.tmp 1)) rfl ?_;go_must(refine rG rfl _ _ rfl w.heap.size 0 rfl (N.alloc (N.new w 201 L) _) 33 Y _ underlying201 rfl ta L (uH Y) ?_))
   |(refine rF (.store 201 (.tmp 4) (.tmp 6)) rfl (ab rfl (w.heap.size+1+1) 0 L (N.uE _ _ vM _ ar) a7 a9 L1c.out ?_)))
  intro w3 hb3 hg3 hs3;have B1:N w3 w.heap.size 201 L:=gO;have B2:N w3 (w.heap.size+1) 201 vM:=gI;have B4:N w3 (w.heap.size+1+1) 201 L:=gB;have HB:ao w w3:=gj;clear hb3 hg3 B0;have u1:=B1.rD 1 L1?;have u2:=B1.rD 2 L2?;clear L1? L2?;go_wp2_with fail;refine(al.out _).mono ?_;rintro _ w4 ⟨rfl,rfl⟩;clear al u1 u2;have u22:=B4.rD 22 L22;have f22:=B4.frozen 22;go_wp2_with fail;have B4':=B4.set 22 rI;rw[LS.out]at B4';have B1':=B1.wZ (p:=⟨w.heap.size+1+1,22,none⟩) aB rI;have B2':=B2.wZ (p:=⟨w.heap.size+1+1,22,none⟩) ar rI;have HB':Below w.heap.size w (w3.setCell ⟨w.heap.size+1+1,22,none⟩ rI):=HB.setCell aB _;have hs4:(w3.setCell ⟨w.heap.size+1+1,22,none⟩ rI).heap.size=w.heap.size+1+1+1:=jn;change Code.wp _ _ _ _ (w3.setCell ⟨w.heap.size+1+1,22,none⟩ rI);generalize w3.setCell ⟨w.heap.size+1+1,22,none⟩ rI=w4 at*;clear B1 B2 B4 HB f22 hs3 LS;refine wp_region_held_drew (S:=fun w'=>N w' w.heap.size 201 L/\N w' (w.heap.size+1+1) 201 L4) (by kernel_rfl) ⟨B1',B4'⟩ (fun hS=>?_);refine uW 0 (some 32) 201 (.tmp 4) ⟨w.heap.size+1+1,0,none⟩ I I I I (by kernel_rfl) (by kernel_rfl) (by kernel_rfl) (fun _ _ _ h=>h) I (fun W hW=>hW.2.tW 201 0 33 Y _ underlying201 I ta L4 (uH Y)) hS ?_;simp only[X]
  (refine ah 1 (some 33) I I (by kernel_rfl) (fun W hW=>rfl) hS ?_;simp only[X])
  refine uW 2 (some 34) 24 (.tmp 33) ⟨w.heap.size,22,none⟩ I I I I (by kernel_rfl) (by kernel_rfl) (by kernel_rfl) (fun _ _ _ h=>h) (by kernel_rfl) (fun W hW=>rQ underlying24 I (hW.1.rD 22 L22)) hS ?_;simp only[X];have HB5:Below w.heap.size w w4.drew:=below_drewN HB' 1;refine Ew 3 (some 35) (by kernel_rfl) I I (by kernel_rfl) (v:=.slice (some ⟨w4.drew.heap.size,0,none⟩) 1 1) (w':=w4.drew.alloc (.cells #[vt] 24)) bc ⟨hS.1.alloc _,hS.2.alloc _⟩ ?_;simp only[X];have AN:=DT (some ⟨w4.drew.heap.size,0,none⟩) 1 [r.tg] _ (hvt▸Cb.afF (hT.G HB5) w4.drew.heap.size I 24) ar;rw[h2.out]at AN;refine su 4 (some 36) 163 #[.slice (some ⟨w4.drew.heap.size,0,none⟩) 1 1] (by kernel_rfl) I I (by kernel_rfl) bc AN ?_;rintro _ w5 ⟨rfl,b5⟩;have akk:ao w w5:=b5▸HB5.alloc HB5.size _;have aiW:N w5 w.heap.size 201 L:=b5▸hS.1.alloc _;have aiV:N w5 (w.heap.size+1+1) 201 L4:=b5▸hS.2.alloc _;have ajk:N w5 (w.heap.size+1) 201 vM:=b5▸B2'.drew.alloc _;refine⟨_,I,⟨aiW,aiV⟩,?_⟩;clear hS B1' B4' B2' HB' HB5 b5 AN;simp only[X];refine wL 5 none 201 (.tmp 2) (.tmp 32) (by kernel_rfl) I I I (by kernel_rfl) (w.heap.size+1) 0 I L4 I ajk a7 bd L4c.out ?_;intro w6 hb6 hg6 hs6;rw[Cp a7]at hb6;have HB6:ao w w6:=iO;have hS:N w6 w.heap.size 201 L/\N w6 (w.heap.size+1+1) 201 L4:=il;refine⟨hS,?_⟩;clear aiW aiV ajk akk hg6;simp only[X]
  (refine ah 6 (some 3) I I (by kernel_rfl) (fun W hW=>rfl) hS ?_;simp only[X])
  refine wpAnyH_done (by kernel_rfl) ?_ _;exact nj
theorem ED.new{w:World}(l:List Int)(k:Nat)(O:k=w.heap.size)(t:TypeId):ED (w.alloc (.cells (sO l).toArray t)) (some ⟨k,0,none⟩) l:=by
 intro _;subst O;refine⟨_,0,I,ar,fun i hi=>?_⟩;rw[Nat.zero_add];exact(N.new w t (sO l)).rD i (by simp[sO,hi])
theorem ED.at{w:World}{L:List Value}{l:List Int}(h:N w g t L)(o:Nat)(E:(L.drop o).take l.length=sO l):ED w (some ⟨g,o,none⟩) l:=by
 intro _;refine⟨_,o,I,h.lt,fun i hi=>?_⟩;refine h.rD (o+i) ?_;have U:((L.drop o).take l.length)[i]?=some (.int .i64 l[i]):=by rw[E];simp[sO,hi]
 rw[List.getElem?_take_of_lt hi,List.getElem?_drop]at U;exact U
theorem rrS{w:World}{L L':List Value}{i:Nat}{v:Value}(h:N w g t L)(he:L.set i v=L'):N (w.setCell ⟨g,i,none⟩ v) g t L':=he▸h.set i v
theorem aeD(vn vm:Value)(At:Option Addr)(ct:Nat)(r:RR)(hr:r.wf)(hn:vn.oneCell'=true)(hm:vm.oneCell'=true)(w:World)(hT:wA w At ct r.tg)(O:sf r.Q r.cl=33):
  Calls prog 153 #[.agg (uz vn (.slice At r.tg.length ct) vm r).toArray] w (rW (.tuple #[.agg (uz vn rI vm {r with pri:=0,we:=0,po:=0,tg:=[]}).toArray,.int .i64 (if[r.pri,r.we,r.po].all (xG 65535)then rR r.tg else 4)]) w):=by
 obtain⟨vt,hvt⟩:∃v,v=Value.slice At r.tg.length ct:=gh;have ht:vt.oneCell'=true:=lR;rw[<-hvt];have E:=uu (vn:=vn) (vt:=vt) (vm:=vm) hr;have L1?:=Ln (vn:=vn) (vt:=vt) (vm:=vm) (r:=r);have L2?:=Lo (vn:=vn) (vt:=vt) (vm:=vm) (r:=r);have L22:=DR (vn:=vn) (vt:=vt) (vm:=vm) hr;have L24:=Tp (vn:=vn) (vt:=vt) (vm:=vm) hr;have L25:=Tq (vn:=vn) (vt:=vt) (vm:=vm) hr;have L26:=Tr (vn:=vn) (vt:=vt) (vm:=vm) hr;have LS:Hid (((((uz vn vt vm r).set 24 (.int .i64 0)).set 25 (.int .i64 0)).set 26 (.int .i64 0)).set 22 rI=uz vn rI vm {r with pri:=0,we:=0,po:=0,tg:=[]}):=J (by
  rw[Tu hr,Wy (r:={r with pri:=0}) hr,Wz (r:={r with pri:=0,we:=0}) hr,Fy (r:={r with pri:=0,we:=0,po:=0}) hr];rfl)
 have L1c:=J (uX (r:=r) hn ht hm);have L4c:=J (uX (vt:=rI) (r:={r with pri:=0,we:=0,po:=0,tg:=[]}) hn I hm);have L4l:=uu (vn:=vn) (vt:=rI) (vm:=vm) (r:={r with pri:=0,we:=0,po:=0,tg:=[]}) hr;have al:=J (fun w=>ti r.Q r.cl w);rw[O]at al;have h2:=J (IV r.tg);have WI:=J (fun w A h=>zG 65535 A 3 [r.pri,r.we,r.po] w h ar);generalize uz vn rI vm {r with pri:=0,we:=0,po:=0,tg:=[]}=L4 at*;generalize uz vn vt vm r=L at*;generalize rR r.tg=e at*;generalize hB3:[r.pri,r.we,r.po].all (xG 65535)=b3 at*;generalize r.pri=n1,r.we=n2,r.po=n3 at*;clear hB3;generalize r.Q=Q,r.cl=cl at*;clear O;generalize akL:(if b3=true then e else 4)=res;have ahm:=J akL;clear akL;have B0:=N.new w 201 L;go_enter func153,ntmps153;go_wp2_with(first
  |(refine rF (.load 201 (.tmp 1)) rfl ?_;go_must(refine rG rfl _ _ rfl w.heap.size 0 rfl (N.alloc (N.new w 201 L) _) 33 Y _ underlying201 rfl ta L (uH Y) ?_))
  |(refine rF (.store 201 (.tmp 4) (.tmp 6)) rfl (ab rfl (w.heap.size+1+1) 0 L (N.uE _ _ vM _ ar) a7 a9 L1c.out ?_)))
 intro w3 hb3 hg3 hs3;have B1:N w3 w.heap.size 201 L:=gO;have B2:N w3 (w.heap.size+1) 201 vM:=gI;have B4:N w3 (w.heap.size+1+1) 201 L:=gB;have HB:ao w w3:=gj;clear hb3 hg3 B0;have u1:=B1.rD 1 L1?;have u2:=B1.rD 2 L2?;clear L1? L2?;go_wp2_with fail;refine(al.out _).mono ?_;rintro _ w4 ⟨rfl,rfl⟩;clear al u1 u2;have u22:=B4.rD 22 L22;have u24:=B4.rD 24 L24;have u25:=B4.rD 25 L25;have u26:=B4.rD 26 L26;have v24:=B1.rD 24 L24;have v25:=B1.rD 25 L25;have v26:=B1.rD 26 L26;have f22:=B4.frozen 22;have f24:=B4.frozen 24;have f25:=B4.frozen 25;have f26:=B4.frozen 26;go_wp2_with fail;have B4s:=rrS (((B4.set 24 (.int .i64 0)).set 25 (.int .i64 0)).set 26 (.int .i64 0)) LS.out;have hl:w.heap.size≠w.heap.size+1+1:=Y;have aj3:w.heap.size+1≠w.heap.size+1+1:=Y;have B1s:=(((B1.wZ (p:=⟨w.heap.size+1+1,24,none⟩) hl (.int .i64 0)).wZ (p:=⟨w.heap.size+1+1,25,none⟩) hl (.int .i64 0)).wZ (p:=⟨w.heap.size+1+1,26,none⟩) hl (.int .i64 0)).wZ (p:=⟨w.heap.size+1+1,22,none⟩) hl rI;have B2s:=(((B2.wZ (p:=⟨w.heap.size+1+1,24,none⟩) aj3 (.int .i64 0)).wZ (p:=⟨w.heap.size+1+1,25,none⟩) aj3 (.int .i64 0)).wZ (p:=⟨w.heap.size+1+1,26,none⟩) aj3 (.int .i64 0)).wZ (p:=⟨w.heap.size+1+1,22,none⟩) aj3 rI;have HBs:=(((HB.setCell (p:=⟨w.heap.size+1+1,24,none⟩) aB (.int .i64 0)).setCell (p:=⟨w.heap.size+1+1,25,none⟩) aB (.int .i64 0)).setCell (p:=⟨w.heap.size+1+1,26,none⟩) aB (.int .i64 0)).setCell (p:=⟨w.heap.size+1+1,22,none⟩) aB rI;have hss:((((w3.setCell ⟨w.heap.size+1+1,24,none⟩ (.int .i64 0)).setCell ⟨w.heap.size+1+1,25,none⟩ (.int .i64 0)).setCell ⟨w.heap.size+1+1,26,none⟩ (.int .i64 0)).setCell ⟨w.heap.size+1+1,22,none⟩ rI).heap.size=w.heap.size+1+1+1:=jn;change Calls _ _ _ (World.alloc ((((w3.setCell ⟨w.heap.size+1+1,24,none⟩ (.int .i64 0)).setCell ⟨w.heap.size+1+1,25,none⟩ (.int .i64 0)).setCell ⟨w.heap.size+1+1,26,none⟩ (.int .i64 0)).setCell ⟨w.heap.size+1+1,22,none⟩ rI) _) _;generalize(((w3.setCell ⟨w.heap.size+1+1,24,none⟩ (.int .i64 0)).setCell ⟨w.heap.size+1+1,25,none⟩ (.int .i64 0)).setCell ⟨w.heap.size+1+1,26,none⟩ (.int .i64 0)).setCell ⟨w.heap.size+1+1,22,none⟩ rI=w7 at*;clear B1 B2 B4 HB f22 f24 f25 f26 v24 v25 v26 LS hs3 L24 L25 L26;refine(WI.out _ _ (ED.new [n1,n2,n3] _ hss.symm 3)).mono ?_;rintro _ w8 ⟨rfl,rfl⟩;clear WI;have B1':=B1s.alloc (.cells (sO [n1,n2,n3]).toArray 3);have B2':=B2s.alloc (.cells (sO [n1,n2,n3]).toArray 3);have B4':=B4s.alloc (.cells (sO [n1,n2,n3]).toArray 3);have HB':=HBs.alloc HBs.size (.cells (sO [n1,n2,n3]).toArray 3);have hs4:(w7.alloc (.cells (sO [n1,n2,n3]).toArray 3)).heap.size=w.heap.size+1+1+1+1:=by simpa using hss
 generalize w7.alloc (.cells (sO [n1,n2,n3]).toArray 3)=w4 at*;clear B1s B2s B4s HBs hss;cases b3 with
 |true=>
  have hr1:e=res:=by simpa using ahm.out
  subst hr1;clear ahm;go_wp2_with fail;refine wp_region_held_drew (S:=fun w'=>N w' w.heap.size 201 L/\N w' (w.heap.size+1+1) 201 L4) (by kernel_rfl) ⟨B1',B4'⟩ (fun hS=>?_);refine uW 0 (some 53) 201 (.tmp 4) ⟨w.heap.size+1+1,0,none⟩ I I I I (by kernel_rfl) (by kernel_rfl) (by kernel_rfl) (fun _ _ _ h=>h) I (fun W hW=>hW.2.tW 201 0 33 Y _ underlying201 I ta L4 (uH Y)) hS ?_;simp only[X]
  (refine ah 1 (some 54) I I (by kernel_rfl) (fun W hW=>rfl) hS ?_;simp only[X])
  refine uW 2 (some 55) 24 (.tmp 54) ⟨w.heap.size,22,none⟩ I I I I (by kernel_rfl) (by kernel_rfl) (by kernel_rfl) (fun _ _ _ h=>h) (by kernel_rfl) (fun W hW=>rQ underlying24 I (hW.1.rD 22 L22)) hS ?_;simp only[X];have HB5:Below w.heap.size w w4.drew:=below_drewN HB' 1;refine Ew 3 (some 56) (by kernel_rfl) I I (by kernel_rfl) (v:=.slice (some ⟨w4.drew.heap.size,0,none⟩) 1 1) (w':=w4.drew.alloc (.cells #[vt] 24)) bc ⟨hS.1.alloc _,hS.2.alloc _⟩ ?_;simp only[X];have AN:=DT (some ⟨w4.drew.heap.size,0,none⟩) 1 [r.tg] _ (hvt▸Cb.afF (hT.G HB5) w4.drew.heap.size I 24) ar;rw[h2.out]at AN;refine su 4 (some 57) 163 #[.slice (some ⟨w4.drew.heap.size,0,none⟩) 1 1] (by kernel_rfl) I I (by kernel_rfl) bc AN ?_;rintro _ w5 ⟨rfl,b5⟩;have akk:ao w w5:=b5▸HB5.alloc HB5.size _;have aiW:N w5 w.heap.size 201 L:=b5▸hS.1.alloc _;have aiV:N w5 (w.heap.size+1+1) 201 L4:=b5▸hS.2.alloc _;have ajk:N w5 (w.heap.size+1) 201 vM:=b5▸B2'.drew.alloc _;refine⟨_,I,⟨aiW,aiV⟩,?_⟩;clear hS B1' B4' B2' HB' HB5 b5 AN;simp only[X];refine wL 5 none 201 (.tmp 2) (.tmp 53) (by kernel_rfl) I I I (by kernel_rfl) (w.heap.size+1) 0 I L4 I ajk a7 bd L4c.out ?_;intro w6 hb6 hg6 hs6;rw[Cp a7]at hb6;have HB6:ao w w6:=iO;have hS:N w6 w.heap.size 201 L/\N w6 (w.heap.size+1+1) 201 L4:=il;refine⟨hS,?_⟩;clear aiW aiV ajk akk hg6;simp only[X]
  (refine ah 6 (some 3) I I (by kernel_rfl) (fun W hW=>rfl) hS ?_;simp only[X])
  refine wpAnyH_done (by kernel_rfl) ?_ _;exact nj
 |false=>
  have hr1:(4:Int)=res:=by simpa using ahm.out
  subst hr1;clear ahm;have B4:=B4';have B2:=B2';have HB:=HB';go_wp2_with(first
   |(refine rF (.load 201 (.tmp 4)) rfl ?_;go_must(refine rG rfl _ _ rfl (w.heap.size+1+1) 0 rfl B4 33 Y _ underlying201 rfl ta L4 (uH Y) ?_))
   |(refine rF (.store 201 (.tmp 2) (.tmp 52)) rfl (ab rfl (w.heap.size+1) 0 L4 B2 a7 bd L4c.out ?_)))
  exact mF
theorem afH(vn vt vm:Value)(r:RR)(hr:r.wf)(hn:vn.oneCell'=true)(ht:vt.oneCell'=true)(hm:vm.oneCell'=true)(w:World)(aiS:r.raw.length<=140737488355328)(O:sf r.Q r.cl=0):
  Calls prog 153 #[.agg (uz vn vt vm r).toArray] w (rW (.tuple #[.agg (uz vn vt vm {r with raw:=[]}).toArray,.int .i64 (if 65535<r.raw.length then 3 else 0)]) w):=by
 have E:=uu (vn:=vn) (vt:=vt) (vm:=vm) hr;have L1?:=Ln (vn:=vn) (vt:=vt) (vm:=vm) (r:=r);have L2?:=Lo (vn:=vn) (vt:=vt) (vm:=vm) (r:=r);have L32:=Ts (vn:=vn) (vt:=vt) (vm:=vm) hr;have LS:=J (Tv (vn:=vn) (vt:=vt) (vm:=vm) hr []);have L1c:=J (uX (r:=r) hn ht hm);have L4c:=J (uX (r:={r with raw:=[]}) hn ht hm);have L4l:=uu (vn:=vn) (vt:=vt) (vm:=vm) (r:={r with raw:=[]}) hr;have al:=J (fun w=>ti r.Q r.cl w);rw[O]at al;generalize uz vn vt vm {r with raw:=[]}=L4 at*;generalize uz vn vt vm r=L at*;generalize r.raw=raw,r.Q=Q,r.cl=cl at*;clear O;generalize akL:(if 65535<raw.length then(3:Int)else 0)=res;have ahm:=J akL;clear akL;have B0:=N.new w 201 L;go_enter func153,ntmps153;go_wp2_with(first
  |(refine rF (.load 201 (.tmp 1)) rfl ?_;go_must(refine rG rfl _ _ rfl w.heap.size 0 rfl (N.alloc (N.new w 201 L) _) 33 Y _ underlying201 rfl ta L (uH Y) ?_))
  |(refine rF (.store 201 (.tmp 4) (.tmp 6)) rfl (ab rfl (w.heap.size+1+1) 0 L (N.uE _ _ vM _ ar) a7 a9 L1c.out ?_)))
 intro w3 hb3 hg3 hs3;have B1:N w3 w.heap.size 201 L:=gO;have B2:N w3 (w.heap.size+1) 201 vM:=gI;have B4:N w3 (w.heap.size+1+1) 201 L:=gB;have HB:ao w w3:=gj;clear hb3 hg3 B0;have u1:=B1.rD 1 L1?;have u2:=B1.rD 2 L2?;clear L1? L2?;go_wp2_with fail;refine(al.out _).mono ?_;rintro _ w4 ⟨rfl,rfl⟩;clear al u1 u2;have u32:=B4.rD 32 L32;have v32:=B1.rD 32 L32;have f32:=B4.frozen 32;have B4s:=rrS B4 LS.out;have hl:w.heap.size≠w.heap.size+1+1:=Y;have aj3:w.heap.size+1≠w.heap.size+1+1:=Y;have B1s:=B1.wZ (p:=⟨w.heap.size+1+1,32,none⟩) hl (.string (bs []));have B2s:=B2.wZ (p:=⟨w.heap.size+1+1,32,none⟩) aj3 (.string (bs []));have HBs:=HB.setCell (p:=⟨w.heap.size+1+1,32,none⟩) aB (.string (bs []));clear B1 B2 B4 HB L32 LS;have B4:=B4s;have B2:=B2s;have HB:=HBs;have hs4:(w3.setCell ⟨w.heap.size+1+1,32,none⟩ (.string (bs []))).heap.size=w.heap.size+1+1+1:=jn;clear B4s B2s HBs B1s;by_cases aqm:65535<raw.length
 ·
  have hr1:(3:Int)=res:=by rw[<-ahm.out,if_pos aqm]
  have hd:decide (65535<(raw.length:Int))=true:=decide_eq_true Y;subst hr1;clear ahm;go_wp2_with(first
   |(refine rF (.load 201 (.tmp 4)) rfl ?_;go_must(refine rG rfl _ _ rfl (w.heap.size+1+1) 0 rfl B4 33 Y _ underlying201 rfl ta L4 (uH Y) ?_))
   |(refine rF (.store 201 (.tmp 2) (.tmp 85)) rfl (ab rfl (w.heap.size+1) 0 L4 B2 a7 bd L4c.out ?_)))
  exact mF
 ·
  have hr1:(0:Int)=res:=by rw[<-ahm.out,if_neg aqm]
  have hd:decide (65535<(raw.length:Int))=false:=je;subst hr1;clear ahm;go_wp2_with(first
   |(refine rF (.load 201 (.tmp 4)) rfl ?_;go_must(refine rG rfl _ _ rfl (w.heap.size+1+1) 0 rfl B4 33 Y _ underlying201 rfl ta L4 (uH Y) ?_))
   |(refine rF (.store 201 (.tmp 2) (.tmp 86)) rfl (ab rfl (w.heap.size+1) 0 L4 B2 a7 bd L4c.out ?_)))
  exact mF
end Go.Proofs.YtakkipnmpmobbaaGreat
