/-
  Layer 32 (pair),plain:one question or two,put side by side or one behind the other.
-/
import Derived.Test.YtakkipnmpmobbaaGreatIQq
namespace Go.Proofs.YtakkipnmpmobbaaGreat
open _root_.Go.Proofs.Tryz
set_option maxHeartbeats 8000000
open Go.RowKit
set_option linter.unusedVariables false
set_option linter.unusedSimpArgs false
variable {i H tk k f b gl b' g:Nat} {T cs:List Value} {w w' w0:World} {S:Nat->Prop} {A:Option Addr}
def adm(r:RR):Prop:=r.wf/\(r.Q=1->r.cl=1->r.ad.fam=4/\r.ad.az=0)/\(r.Q=28->r.cl=1->r.ad.fam=6/\r.ad.az=0)
def zx(m:tq):Prop:=∀r∈m.an,adm r
theorem zx.zero:zx tq.zero:=fun r hr=>by cases hr
theorem RK:∀{l:List Int},vw l=0->∀x∈l,x=0
 |[],_,x,hx=>by cases hx
 |y::l,h,x,hx=>by
  unfold vw at h;split at h
  ·rename_i hy;exact absurd h (by simpa using hy)
  ·
   rename_i hy;rcases List.mem_cons.1 hx with rfl|hx
   ·simpa using hy
   ·exact RK h x hx
theorem adm.of{r:RR}(hw:r.wf)(h:r8 r=0):adm r:=by
 have hE:wT r=0:=by
  unfold r8 at h;split at h
  ·rename_i U;exact absurd h U
  ·
   split at h
   ·cases h
   ·
    split at h
    ·rename_i U;exact absurd h U
    ·rename_i U;exact Decidable.not_not.1 U
 refine⟨hw,fun U F=>?_,fun U F=>?_⟩
 ·
  have O:sf r.Q r.cl=1:=lx;unfold wT at hE;rw[if_pos O]at hE;split at hE
  ·cases hE
  ·
   rename_i hn;have h4:¬r.ad.fam≠4:=fun c=>hn (.inr (.inl c))
   exact pq
 ·
  have O:sf r.Q r.cl=28:=lx;unfold wT at hE;rw[if_neg (by rw[O];decide),if_pos O]at hE;split at hE
  ·cases hE
  ·
   rename_i hn;have h4:¬r.ad.fam≠6:=fun c=>hn (.inr (.inl c))
   exact pq
theorem zx.of{s:List UInt8}{m:tq}(h:vZ s= .ok m):zx m:=by
 obtain⟨U,hw,_⟩:=acG h;intro r hr;refine adm.of (hw r (by unfold tq.Em;simp[hr])) ?_;unfold uf at U;split at U
 ·cases U
 ·
  split at U
  ·cases U
  ·
   split at U
   ·rename_i F;exact absurd U F
   ·exact RK U _ (List.mem_map.2 ⟨r,by unfold tq.Em;simp[hr],I⟩)
theorem JU(y:Qy)(s:List UInt8):zx (vz y (vZ s)).1:=by
 unfold vz;split
 ·
  rename_i m hm;split
  ·exact zx.of hm
  ·exact zx.zero
 ·exact zx.zero
theorem X9(y:Qy)(e:Ev):zx (EZ y e).1:=by
 unfold EZ;split
 ·exact JU _ _
 ·exact zx.zero
theorem JV(y:Qy):∀(l:List (List UInt8)) (m:tq),ul y l=some m->zx m
 |[],m,h=>by cases h
 |s::l,m,h=>by
  unfold ul at h;split at h
  ·injection h with h;subst h;exact JU _ _
  ·exact JV y l m h
theorem Ya{d:Dl}(h:zx d.xZ)(e:Ev):zx (te d e).1.xZ:=by
 unfold te;split
 ·exact h
 ·
  split
  ·split<;>exact h
  ·
   split
   ·
    split
    ·
     split
     ·rename_i m hm;exact JV _ _ _ hm
     ·exact h
    ·exact h
   ·split<;>exact h
theorem Yb{d:Dl}(h:zx d.xZ):zx (wg d).1.xZ:=by unfold wg;split<;>exact h
theorem abf(y:Qy):zx (yM y).1.xZ:=by unfold yM;split<;>exact zx.zero
def Gn(x:Xc):Prop:=zx x.xZ/\zx x.d.xZ
theorem JX{x:Xc}(h:Gn x)(L:Lt)(lg:Nat):Gn (wX x L lg).1:=by
 unfold wX;split
 ·exact⟨h.1,abf _⟩
 ·exact h
theorem RN{x:Xc}(h:Gn x)(L:Lt):Gn (Bp x L).1:=by
 unfold Bp;split
 ·exact JX h _ _
 ·exact⟨zx.zero,h.2⟩
theorem AU{x:Xc}(h:Gn x)(L:Lt):Gn (vD x L).1:=RN (x:={x with k:=x.k+1}) h L
theorem MN{x:Xc}(h:Gn x)(L:Lt){m:tq}(hm:zx m):Gn (xY x L m).1:=by
 unfold xY;split
 ·exact⟨hm,h.2⟩
 ·
  split
  ·exact JX h _ _
  ·
   split
   ·exact JX h _ _
   ·
    split
    ·exact AU (x:={x with hard:=true}) h L
    ·exact AU h L
theorem Yc{x:Xc}(h:Gn x)(L:Lt)(e:Ev):Gn (sK x L e).1:=by
 have hd:=Ya h.2 e;unfold sK;split
 ·exact h
 ·
  split
  ·
   split
   ·
    split
    ·exact AU (x:={x with left:=x.left-1,d:=(wg x.d).1}) ⟨h.1,Yb h.2⟩ L
    ·exact h
   ·
    split
    ·exact MN (x:={x with d:=(te x.d e).1}) ⟨h.1,hd⟩ L hd
    ·
     split
     ·exact AU (x:={x with d:=(te x.d e).1}) ⟨h.1,hd⟩ L
     ·exact⟨h.1,hd⟩
  ·
   split
   ·
    split
    ·exact AU (x:={x with left:=x.left-1}) h L
    ·exact h
   ·
    split
    ·exact MN h L (X9 _ _)
    ·exact h
theorem abg(tmo:Int)(vc ed:Bool)(q:Qn)(tr:List sg)(L:Lt):Gn (Dv tmo vc ed q tr L).1:=by
 have h0:Gn (wY tmo vc ed q tr):=⟨zx.zero,zx.zero⟩;unfold Dv;split
 ·exact h0
 ·exact RN h0 L
structure Pr where
 r:Rs
 nm:List (List UInt8)
 tys:List Int
 turn:Int
 bg:List Xc
abbrev PR:=Pr×Lt×List Ou
def RQ(p:Pr)(k:Nat):Qn:=⟨p.nm,p.tys.getD k 0,1⟩
def Kt(p:Pr)(L:Lt):XR:=Dv (rT p.r).tmo (rT p.r).vc (rT p.r).ed (RQ p p.bg.length) (uy p.r (IntKind.i64.wrap (p.turn+p.bg.length))) L
def ya(p:Pr):Bool:=p.r.si&&(match p.bg.getLast? with
 |none=>false
 |some x=>!x.done)
def Fh(p:Pr)(L:Lt):Pr:={p with bg:=p.bg++[(Kt p L).1]}
def tS:Nat->Pr->Lt->List Ou->PR
 |0,p,L,o=>(p,L,o)
 |f+1,p,L,o=>if p.bg.length<p.tys.length/\ya p=false then tS f (Fh p L) (Kt p L).2.1 (o++(Kt p L).2.2)else(p,L,o)
def JY(e:Ev)(s:List Xc×Lt×List Ou)(x:Xc):List Xc×Lt×List Ou:=(s.1++[(sK x s.2.1 e).1],(sK x s.2.1 e).2.1,s.2.2++(sK x s.2.1 e).2.2)
def sH(l:List Xc)(L:Lt)(e:Ev):List Xc×Lt×List Ou:=l.foldl (JY e) ([],L,[])
def vW(p:Pr)(L:Lt)(e:Ev):Pr:={p with bg:=(sH p.bg L e).1}
def yg(p:Pr)(L:Lt)(e:Ev):PR:=((tS 3 (vW p L e) (sH p.bg L e).2.1 []).1,(tS 3 (vW p L e) (sH p.bg L e).2.1 []).2.1,(sH p.bg L e).2.2++(tS 3 (vW p L e) (sH p.bg L e).2.1 []).2.2)
def tT(r:Rs)(nm:List (List UInt8))(tys:List Int)(turn:Int):Pr:=⟨r,nm,tys,turn,[]⟩
def Dz(r:Rs)(nm:List (List UInt8))(tys:List Int)(turn:Int)(L:Lt):PR:=tS 3 (tT (rT r) nm tys turn) L []
def yh(p:Pr):Bool:=p.bg.all (·.done)&&decide (p.bg.length=p.tys.length)
def Ho(p:Pr):Nat:=(p.bg.map (·.r6)).sum
def adn(p:Pr):Nat:=(p.bg.map Xc.Di).sum+sm p.r*(p.tys.length-p.bg.length)
structure XP (p:Pr) (i:Nat) (x:Xc) (H:Nat):Prop where
 inv:∃t,adi (uy p.r 0).length (sm p.r) x t
 vd:UD x
 q:x.q=RQ p i
 fm:Gn x
 hd:x.d.ty.length<=H
structure PI (p:Pr) (L:Lt) (tk k H:Nat):Prop where
 tl:p.tys.length<=2
 bl:p.bg.length<=p.tys.length
 ea:∀i x,p.bg[i]?=some x->XP p i x H
 ph:adn p<=sm p.r*p.tys.length-tk
 us:L.us<=4*k+2*p.bg.length
 ds:L.ds.length<=17592186044416
theorem XP.r6{p:Pr}{x:Xc}(h:XP p i x H):x.r6<=uD p.r:=by
 obtain⟨t,U⟩:=h.inv;have:=U.rst;unfold uD;omega
theorem XP.s45{p:Pr}{x:Xc}(h:XP p i x H):x.r6<=45:=Nat.le_trans h.r6 (Ff p.r).2
theorem XP.OG{p:Pr}{x:Xc}(h:XP p i x H)(ok:x.ok)(L:Lt)(e:Ev)(p':Pr)(hr:p'.r=p.r)(hq:RQ p' i=RQ p i):XP p' i (sK x L e).1 (H+e.data.length)/\(sK x L e).2.1.us<=L.us+2/\(sK x L e).2.1.ds=L.ds/\(sK x L e).1.Di<=x.Di/\(e.kind=1->x.done=false->(sK x L e).1.Di+1<=x.Di):=by
 obtain⟨t,U⟩:=h.inv;obtain⟨i1,i2,i3,i4,i5⟩:=U.OG ok L e;have h2:=MG ok.st (fun hd=>(ok.go hd).2.1) U.lg U.vd L e;have h5:=h2.Di;have h6:=h.hd;refine⟨⟨⟨_,by rw[hr];exact i1⟩,aba h.vd L e,h2.q.trans (h.q.trans hq.symm),Yc h.fm L e,Y⟩,i3,i4,?_,fun O hd=>?_⟩
 ·split at h5<;>omega
 ·have h7:=(ok.go hd).2.1;have h8:=JO hd;rw[if_pos O]at h5;omega
theorem MP(L:Lt)(e:Ev):sH [] L e=([],L,[]):=rfl
theorem Yd(x:Xc)(L:Lt)(e:Ev):sH [x] L e=([(sK x L e).1],(sK x L e).2.1,(sK x L e).2.2):=rfl
theorem Ye(x y:Xc)(L:Lt)(e:Ev):sH [x,y] L e=([(sK x L e).1,(sK y (sK x L e).2.1 e).1],(sK y (sK x L e).2.1 e).2.1,(sK x L e).2.2++(sK y (sK x L e).2.1 e).2.2):=rfl
theorem BJ(l:List Xc)(L:Lt)(e:Ev)(k:Nat)(O:k<l.length):sH (l.take (k+1)) L e=JY e (sH (l.take k) L e) l[k]:=by
 unfold sH;rw[List.take_succ_eq_append_getElem O,List.foldl_append];rfl
theorem MQ(l:List Xc)(L:Lt)(e:Ev):(sH l L e).1.length=l.length:=by
 have key:∀(l:List Xc) (s:List Xc×Lt×List Ou),(l.foldl (JY e) s).1.length=s.1.length+l.length:=by
  intro l;induction l with
  |nil=>intro s;rfl
  |cons x l ih=>intro s;rw[List.foldl_cons,ih];simp[JY];omega
 exact rk
theorem UE(l:List Xc)(L:Lt)(e:Ev):(sH l L e).2.2.length<=2*l.length:=by
 have key:∀(l:List Xc) (s:List Xc×Lt×List Ou),(l.foldl (JY e) s).2.2.length<=s.2.2.length+2*l.length:=by
  intro l;induction l with
  |nil=>intro s;exact Nat.le_refl _
  |cons x l ih=>intro s;rw[List.foldl_cons];refine Nat.le_trans (ih _) ?_;have:=MH x s.2.1 e;simp[JY];omega
 exact rk
theorem PI.af7{p:Pr}{L:Lt}(h:PI p L tk k H)(ok:∀x∈p.bg,x.ok)(e:Ev)(hw:p.bg.length<p.tys.length->ya p=true):
  PI (vW p L e) (sH p.bg L e).2.1 (tk+if e.kind=1 then 1 else 0) (k+1) (H+e.data.length):=by
 obtain⟨r,nm,tys,turn,bg⟩:=p;obtain⟨U,F,h3,h4,h5,h6⟩:=h;simp only at U F h3 h4 h5 h6 ok hw⊢;have hph:∀b:Nat,(sm r*(tys.length-b)<=sm r*tys.length):=fun b=>Nat.mul_le_mul_left _ Y
 match bg,F with
 |[],F=>
  have h0:tys.length=0:=by
   have:=hw;by_cases c:0<tys.length
   ·have:=hw c;simp[ya]at this
   ·omega
  rw[MP];refine⟨U,F,fun i x c=>by simp[vW,MP]at c,?_,fX,h6⟩;show 0+sm r*(tys.length-0)<=_;rw[h0];simp
 |[x],F=>
  obtain⟨x1,x2,x3,x4,x5⟩:=(h3 0 x I).OG (ok x ar) L e ⟨r,nm,tys,turn,[(sK x L e).1]⟩ I I;have hx:vW ⟨r,nm,tys,turn,[x]⟩ L e=⟨r,nm,tys,turn,[(sK x L e).1]⟩:=rfl;rw[hx,Yd];refine⟨U,F,fun i y c=>?_,?_,fX,by rw[x3];exact h6⟩
  ·
   match i,c with
   |0,c=>injection c with c;subst c;exact x1
  ·
   have h7:x.Di+0+sm r*(tys.length-1)<=sm r*tys.length-tk:=h4;show(sK x L e).1.Di+0+sm r*(tys.length-1)<=sm r*tys.length-(tk+if e.kind=1 then 1 else 0);split<;>rename_i O
   ·
    cases hd:x.done with
    |false=>have:=x5 O hd;omega
    |true=>
     have hp:=Ec hd;have E:tys.length=1:=by
      by_cases c:1<tys.length
      ·have:=hw c;simp[ya,hd]at this
      ·simp at F;omega
     rw[E];omega
   ·omega
 |[x,y],F=>
  obtain⟨x1,x2,x3,x4,x5⟩:=(h3 0 x I).OG (ok x ar) L e ⟨r,nm,tys,turn,[(sK x L e).1,(sK y (sK x L e).2.1 e).1]⟩ I I;obtain⟨y1,y2,y3,y4,y5⟩:=(h3 1 y I).OG (ok y ar) (sK x L e).2.1 e ⟨r,nm,tys,turn,[(sK x L e).1,(sK y (sK x L e).2.1 e).1]⟩ I I;have hx:vW ⟨r,nm,tys,turn,[x,y]⟩ L e=⟨r,nm,tys,turn,[(sK x L e).1,(sK y (sK x L e).2.1 e).1]⟩:=rfl;rw[hx,Ye];refine⟨U,F,fun i z c=>?_,?_,fX,by rw[y3,x3];exact h6⟩
  ·
   match i,c with
   |0,c=>injection c with c;subst c;exact x1
   |1,c=>injection c with c;subst c;exact y1
  ·
   have h7:x.Di+(y.Di+0)+sm r*(tys.length-2)<=sm r*tys.length-tk:=h4;show(sK x L e).1.Di+((sK y (sK x L e).2.1 e).1.Di+0)+sm r*(tys.length-2)<=sm r*tys.length-(tk+if e.kind=1 then 1 else 0);split<;>rename_i O
   ·
    cases hd:x.done with
    |false=>have:=x5 O hd;omega
    |true=>
     have hp:=Ec hd;cases hd2:y.done with
     |false=>have:=y5 O hd2;omega
     |true=>
      have hp2:=Ec hd2;have E:tys.length=2:=by simp at F;omega
      rw[E];omega
   ·omega
 |x::y::z::l,F=>simp at F;omega
theorem PI.one{p:Pr}{L:Lt}(h:PI p L tk k H)(E:p.bg.length<p.tys.length)(ok:(Kt p L).1.ok):PI (Fh p L) (Kt p L).2.1 tk k H:=by
 have ht:(uy p.r (IntKind.i64.wrap (p.turn+p.bg.length))).length=(uy p.r 0).length:=by rw[AJ,AJ]
 have h2:yd _ L (Kt p L) _ _ _:=aaU (rT p.r).tmo (rT p.r).vc (rT p.r).ed (RQ p p.bg.length) (uy p.r (IntKind.i64.wrap (p.turn+p.bg.length))) L (adj p.r (RQ p p.bg.length) _ L ok);have h3:=h2.snt;have h4:=h2.rst;have h5:=h2.Di;have h7:=h2.hd;have h8:=h2.us;have h0:(wY (rT p.r).tmo (rT p.r).vc (rT p.r).ed (RQ p p.bg.length) (uy p.r (IntKind.i64.wrap (p.turn+p.bg.length)))).r6=0:=rfl;have hT:sm p.r=(rT p.r).tmo.toNat*(3*(uy p.r 0).length):=rfl;rw[ht]at h4 h5;rw[<-hT]at h5;have hm:sm p.r*(p.tys.length-p.bg.length)=sm p.r+sm p.r*(p.tys.length-(p.bg.length+1)):=by rw[show p.tys.length-p.bg.length=(p.tys.length-(p.bg.length+1))+1 by omega,Nat.mul_add,Nat.mul_one,Nat.add_comm]
 have hph:=h.ph;have hus:=h.us;unfold adn at hph;have hbl:(Fh p L).bg.length=p.bg.length+1:=by simp[Fh]
 refine⟨h.tl,by rw[hbl];exact E,fun i x c=>?_,?_,by rw[hbl];omega,by rw[h2.ds];exact h.ds⟩
 ·
  have c':(p.bg++[(Kt p L).1])[i]?=some x:=c;by_cases hi:i<p.bg.length
  ·rw[List.getElem?_append_left hi]at c';obtain⟨a1,a2,a3,a4,a5⟩:=h.ea i x c';exact⟨a1,a2,a3,a4,a5⟩
  ·
   rw[List.getElem?_append_right Y]at c';have hi0:i-p.bg.length=0:=by
    by_cases c0:i-p.bg.length=0
    ·exact c0
    ·rw[List.getElem?_eq_none aB]at c';cases c'
   rw[hi0]at c';injection c' with c';subst c';have hie:i=p.bg.length:=Y;subst hie;exact⟨⟨0,⟨by rw[h2.tr];exact ht,by show _<=3*(uy p.r 0).length;omega,by show _<=sm p.r-0;omega,h2.lg,h2.vd⟩⟩,adk _ _ _ _ _ _,h2.q,abg _ _ _ _ _ _,Y⟩
 ·unfold adn;rw[hbl];show((p.bg++[(Kt p L).1]).map Xc.Di).sum+sm p.r*(p.tys.length-(p.bg.length+1))<=sm p.r*p.tys.length-tk;rw[List.map_append,List.sum_append];simp only[List.map_cons,List.map_nil,List.sum_cons,List.sum_nil];omega
theorem RT{p:Pr}(L:Lt)(o:List Ou)(h:¬(p.bg.length<p.tys.length/\ya p=false)):tS f p L o=(p,L,o):=by
 cases f with
 |zero=>rfl
 |succ f=>unfold tS;rw[if_neg h]
theorem Gp{p:Pr}(L:Lt)(o:List Ou)(h:p.bg.length<p.tys.length)(hw:ya p=false):tS (f+1) p L o=tS f (Fh p L) (Kt p L).2.1 (o++(Kt p L).2.2):=by
 conv=>lhs;unfold tS
 rw[if_pos ⟨h,hw⟩]
theorem VR{x:Xc}:∀{l:List Xc},x∈l->x.Di<=(l.map Xc.Di).sum
 |y::l,h=>by
  rw[List.map_cons,List.sum_cons];rcases List.mem_cons.1 h with rfl|h
  ·omega
  ·have:=VR h;omega
theorem PI.end_{p:Pr}{L:Lt}(h:PI p L tk k H)(ok:∀x∈p.bg,x.ok)(hw:p.bg.length<p.tys.length->ya p=true)(ht:sm p.r*p.tys.length<=tk):yh p=true:=by
 have hph:=h.ph;unfold adn at hph;have h0:(p.bg.map Xc.Di).sum=0:=Y;have ajF:∀x∈p.bg,x.done=true:=by
  intro x hx;have hz:x.Di=0:=by have:=VR hx;omega
  cases hd:x.done with
  |true=>rfl
  |false=>have h7:=((ok x hx).go hd).2.1;have h8:=JO hd;omega
 have E:p.bg.length=p.tys.length:=by
  by_cases c:p.bg.length<p.tys.length
  ·
   have:=hw c;unfold ya at this;simp only[Bool.and_eq_true]at this;obtain⟨_,F⟩:=this;cases hg:p.bg.getLast? with
   |none=>rw[hg]at F;cases F
   |some x=>rw[hg]at F;have:=ajF x (List.mem_of_getLast? hg);simp[this]at F
  ·have:=h.bl;omega
 unfold yh;simp only[Bool.and_eq_true,List.all_eq_true,decide_eq_true_eq];exact⟨fun x hx=>ajF x hx,E⟩
theorem PI.r6{p:Pr}{L:Lt}(h:PI p L tk k H):Ho p<=p.bg.length*uD p.r:=by
 unfold Ho;have key:∀(l:List Xc) (m:Nat),(∀x∈l,x.r6<=m)->(l.map (·.r6)).sum<=l.length*m:=by
  intro l m;induction l with
  |nil=>intro _;simp
  |cons x l ih=>intro hx;have U:=hx x ar;have F:=ih (fun y hy=>hx y (by simp[hy]));simp only[List.map_cons,List.sum_cons,List.length_cons,Nat.succ_mul];omega
 refine key _ _ (fun x hx=>?_);obtain⟨i,hi⟩:=List.getElem?_of_mem hx;exact(h.ea i x hi).r6
set_option maxRecDepth 100000
def MR(T:List Value)(vq:Value)(turn:Int)(gl:Nat)(vb:Value):List Value:=T++[vq,.int .i64 turn,.pointer (some ⟨gl,0,none⟩),vb]
theorem Io(h:T.length=10)(vq:Value)(turn:Int)(gl:Nat)(vb:Value):(MR T vq turn gl vb).length=14:=by
 unfold MR;rw[List.length_append,h];rfl
def VS(w:World)(g:Nat)(T:List Value)(vq:Value)(turn:Int)(gl:Nat)(vb:Value):Prop:=N w g 136 (MR T vq turn gl vb)/\T.length=10
section
variable {w w':World} {g:Nat} {T:List Value} {vq vb:Value} {turn:Int} {gl:Nat}
theorem VS.c(h:VS w g T vq turn gl vb){u:Value}(i:Nat)(hu:[vq,.int .i64 turn,.pointer (some ⟨gl,0,none⟩),vb][i]?=some u):w.cell? ⟨g,10+i,none⟩=some u:=h.1.rD (10+i) ((VP h.2 _ i).trans hu)
theorem VS.G(h:VS w g T vq turn gl vb)(k:ao w w'):VS w' g T vq turn gl vb:=⟨h.1.G k h.1.lt,h.2⟩
end
def QI(w:World)(cs:List Value)(q:Qn):Prop:=∃v,cs=qC v q/\Mq w v q.name
theorem QI.len{q:Qn}(h:QI w cs q):cs.length=3:=by obtain⟨v,rfl,_⟩:=h;rfl
def UF(p:Pr):List Qn:=p.tys.map (fun t=>⟨p.nm,t,1⟩)
theorem Dm(p:Pr):(UF p).length=p.tys.length:=by simp[UF]
theorem VT(p:Pr)(k:Nat)(h:k<(UF p).length):(UF p)[k]=RQ p k:=by
 have h':k<p.tys.length:=by rwa[Dm]at h
 unfold RQ;rw[List.getD_eq_getElem?_getD,List.getElem?_eq_getElem h'];simp[UF]
abbrev YD(w:World)(v:Value)(l:List Qn):Prop:=rJ w 0 160 3 (QI w) v l
theorem YD.fr{v:Value}{l:List Qn}(h:YD w v l)(k:Fr S w w'):YD w' v l:=
 h.rM (fun _ x=>k.own x bV) (fun _ _ ⟨v,e,n⟩=>⟨v,e,n.rM k.rM⟩)
def PtI(cs:List Value)(g:Nat):Prop:=cs=[.pointer (some ⟨g,0,none⟩)]
abbrev PtL(w:World)(b:Nat)(v:Value)(l:List Nat):Prop:=rJ w b 137 1 PtI v l
structure zS (w:World) (b gl:Nat) (hk:List (Nat×Option Nat)) (l:List Xc):Prop where
 ln:hk.length=l.length
 rU:∀(i g:Nat) (D:Option Nat) (x:Xc),hk[i]?=some (g,D)->l[i]?=some x->tJ w g gl D x/\b<=g/\∀d,D=some d->b<=d
 ap:∀(i j g:Nat) (D:Option Nat) (g':Nat) (D':Option Nat),i≠j->hk[i]?=some (g,D)->hk[j]?=some (g',D')->g≠g'/\∀d,D=some d->D'≠some d
theorem zS.nil(w:World)(b gl:Nat):zS w b gl [] []:=⟨I,fun i g D x h=>by simp at h,fun i j g D g' D' _ h=>by simp at h⟩
theorem zS.x{hk:List (Nat×Option Nat)}{l:List Xc}(h:zS w b gl hk l)(i:Nat)(hi:i<l.length):∃g D,hk[i]?=some (g,D)/\tJ w g gl D l[i]/\b<=g/\∀d,D=some d->b<=d:=by
 have hX:i<hk.length:=by rw[h.ln];exact hi
 refine⟨hk[i].1,hk[i].2,List.getElem?_eq_getElem hX,h.rU i _ _ _ (List.getElem?_eq_getElem hX) (List.getElem?_eq_getElem hi)⟩
theorem zS.ok{hk:List (Nat×Option Nat)}{l:List Xc}(h:zS w b gl hk l):∀x∈l,x.ok:=by
 intro x hx;obtain⟨i,hi⟩:=List.getElem?_of_mem hx;obtain⟨E,e⟩:=List.getElem?_eq_some_iff.1 hi;obtain⟨g,D,_,F,_⟩:=h.x i E;rw[<-e];exact F.ok
theorem zS.yu{hk:List (Nat×Option Nat)}{l:List Xc}{p:TypeId->Prop}(h:zS w b gl hk l)(k:Fr (wj w p b') w w')(U:¬p 173)(F:¬p 243):zS w' b gl hk l:=
 ⟨h.ln,fun i g D x c c'=>by obtain⟨a1,a2⟩:=h.rU i g D x c c';exact⟨a1.yu k U F,a2⟩,h.ap⟩
theorem zS.G{hk:List (Nat×Option Nat)}{l:List Xc}(h:zS w b gl hk l)(k:ao w w'):zS w' b gl hk l:=
 ⟨h.ln,fun i g D x c c'=>by obtain⟨a1,a2⟩:=h.rU i g D x c c';exact⟨a1.G k,a2⟩,h.ap⟩
theorem zS.step{hk:List (Nat×Option Nat)}{l:List Xc}(h:zS w b gl hk l){D D':Option Nat}{x x':Xc}{L:Lt}(hX:hk[i]?=some (g,D))(hx:l[i]?=some x)(E:sE w gl L)(k:Fr (XS g gl D) w w')(hat:tJ w' g gl D' x')(hD:∀d,D'=some d->D=some d\/w.heap.size<=d)(hbw:b<=w.heap.size):zS w' b gl (hk.set i (g,D')) (l.set i x'):=by
 obtain⟨hi,_⟩:=List.getElem?_eq_some_iff.1 hX;obtain⟨hi2,_⟩:=List.getElem?_eq_some_iff.1 hx;obtain⟨a0,bg0,bD0⟩:=h.rU i g D x hX hx;obtain⟨B0,hB0⟩:=a0.sD;obtain⟨BL,hBL⟩:=vj E;refine⟨by simp[h.ln],fun j g1 D1 y c c'=>?_,fun j1 j2 g1 D1 g2 D2 hl c c'=>?_⟩
 ·
  by_cases e:j=i
  ·
   subst e;rw[List.getElem?_set_self hi]at c;rw[List.getElem?_set_self hi2]at c';injection c with c;injection c with c1 c2;injection c' with c';subst c1 c2 c';refine⟨hat,bg0,fun d hd=>?_⟩;rcases hD d hd with q|q
   ·exact bD0 d q
   ·omega
  ·
   rw[List.getElem?_set_ne (fun c=>e c.symm)]at c c';obtain⟨a1,a2,a3⟩:=h.rU j g1 D1 y c c';obtain⟨n1,n2⟩:=h.ap j i g1 D1 g D e c hX;obtain⟨B1,hB1⟩:=a1.sD;refine⟨a1.fr k ?_ ?_,a2,a3⟩
   ·
    rintro(q|q|q)
    ·exact n1 q
    ·exact uU hB1 hBL K q
    ·obtain⟨LD,hLD⟩:=a0.dl g1 q;exact uU hB1 hLD K I
   ·
    rintro d LD q hLD (s|s|s)
    ·exact uU hLD hB0 K s
    ·exact uU hLD hBL K s
    ·exact n2 d q s
 ·
  have key:∀(j:Nat) (g1:Nat) (D1:Option Nat),j≠i->hk[j]?=some (g1,D1)->g≠g1/\∀d,D'=some d->D1≠some d:=by
   intro j g1 D1 e c;obtain⟨n1,n2⟩:=h.ap i j g D g1 D1 (fun q=>e q.symm) hX c;refine⟨n1,fun d hd q=>?_⟩;rcases hD d hd with s|s
   ·exact n2 d s q
   ·
    have hj:j<l.length:=by rw[<-h.ln];exact(List.getElem?_eq_some_iff.1 c).1
    obtain⟨a1,_⟩:=h.rU j g1 D1 _ c (List.getElem?_eq_getElem hj);obtain⟨LD,hLD⟩:=a1.dl d q;have:=hLD.lt;omega
  by_cases e:j1=i
  ·subst e;rw[List.getElem?_set_self hi]at c;rw[List.getElem?_set_ne hl]at c';injection c with c;injection c with c1 c2;subst c1 c2;exact key j2 g2 D2 (fun q=>hl q.symm) c'
  ·
   by_cases e2:j2=i
   ·subst e2;rw[List.getElem?_set_self hi]at c';rw[List.getElem?_set_ne (fun q=>hl q.symm)]at c;injection c' with c';injection c' with c1 c2;subst c1 c2;obtain⟨n1,n2⟩:=key j1 g1 D1 hl c;exact⟨fun q=>n1 q.symm,fun d hd q=>n2 d q hd⟩
   ·rw[List.getElem?_set_ne (fun q=>e q.symm)]at c;rw[List.getElem?_set_ne (fun q=>e2 q.symm)]at c';exact h.ap j1 j2 g1 D1 g2 D2 hl c c'
theorem zS.Ce{hk:List (Nat×Option Nat)}{l:List Xc}(h:zS w b gl hk l){D:Option Nat}{x:Xc}{L:Lt}(E:sE w gl L)(k:Fr (fun i=>i=gl) w w')(hat:tJ w' g gl D x)(hg:w.heap.size<=g)(hD:∀d,D=some d->w.heap.size<=d)(hbw:b<=w.heap.size):zS w' b gl (hk++[(g,D)]) (l++[x]):=by
 obtain⟨BL,hBL⟩:=vj E;have Bc:∀(j g1:Nat) (D1:Option Nat) (y:Xc),hk[j]?=some (g1,D1)->l[j]?=some y->tJ w' g1 gl D1 y/\g1<w.heap.size/\∀d,D1=some d->d<w.heap.size:=by intro j g1 D1 y c c';obtain⟨a1,a2,a3⟩:=h.rU j g1 D1 y c c';obtain⟨B1,hB1⟩:=a1.sD;refine⟨a1.fr k (fun q=>uU hB1 hBL K q) (fun d LD q hLD s=>uU hLD hBL K s),hB1.lt,fun d hd=>?_⟩;obtain⟨LD,hLD⟩:=a1.dl d hd;exact hLD.lt
 have last:∀(j g1:Nat) (D1:Option Nat),¬j<hk.length->(hk++[(g,D)])[j]?=some (g1,D1)->j=hk.length/\g1=g/\D1=D:=by intro j g1 D1 hj c;have hj2:=(List.getElem?_eq_some_iff.1 c).1;rw[List.length_append,List.length_singleton]at hj2;have e:j=hk.length:=Y;subst e;rw[List.getElem?_append_right (Nat.le_refl _),Nat.sub_self]at c;injection c with c;injection c with c1 c2;exact⟨I,c1.symm,c2.symm⟩
 refine⟨by simp[h.ln],fun j g1 D1 y c c'=>?_,fun j1 j2 g1 D1 g2 D2 hl c c'=>?_⟩
 ·
  by_cases e:j<hk.length
  ·rw[List.getElem?_append_left e]at c;rw[List.getElem?_append_left dM]at c';obtain⟨_,a2,a3⟩:=h.rU j g1 D1 y c c';exact⟨(Bc j g1 D1 y c c').1,a2,a3⟩
  ·obtain⟨e1,rfl,rfl⟩:=last j g1 D1 e c;rw[List.getElem?_append_right (by rw[<-h.ln];omega),show j-l.length=0 by rw[<-h.ln];omega]at c';injection c' with c';subst c';exact⟨hat,Y,fun d hd=>by have:=hD d hd;omega⟩
 ·
  have key:∀(j g1:Nat) (D1:Option Nat),j<hk.length->(hk++[(g,D)])[j]?=some (g1,D1)->g1<w.heap.size/\∀d,D1=some d->d<w.heap.size:=by intro j g1 D1 e c;rw[List.getElem?_append_left e]at c;obtain⟨_,k1,k2⟩:=Bc j g1 D1 _ c (List.getElem?_eq_getElem dM);exact⟨k1,k2⟩
  by_cases e1:j1<hk.length
  ·
   by_cases e2:j2<hk.length
   ·rw[List.getElem?_append_left e1]at c;rw[List.getElem?_append_left e2]at c';exact h.ap j1 j2 g1 D1 g2 D2 hl c c'
   ·obtain⟨_,rfl,rfl⟩:=last j2 g2 D2 e2 c';obtain⟨k1,k2⟩:=key j1 g1 D1 e1 c;exact⟨Y,fun d hd q=>by have:=k2 d hd;have:=hD d q;omega⟩
  ·
   obtain⟨x1,rfl,rfl⟩:=last j1 g1 D1 e1 c;by_cases e2:j2<hk.length
   ·obtain⟨k1,k2⟩:=key j2 g2 D2 e2 c';exact⟨Y,fun d hd q=>by have:=k2 d q;have:=hD d hd;omega⟩
   ·obtain⟨x2,_,_⟩:=last j2 g2 D2 e2 c';omega
structure yF (w0 w:World) (b g gl:Nat) (hk:List (Nat×Option Nat)) (p:Pr):Prop where
 c:∃T vq vb,VS w g T vq p.turn gl vb/\Jw w0 w T p.r/\YD w vq (UF p)/\PtL w b vb (hk.map (·.1))
 xs:zS w b gl hk p.bg
 ba:ao w0 w
 wb:w0.heap.size<=b
 bg:b<=g
 bl:b<=gl
 rs:p.r.sv.length<=100/\p.r.se.length<=100/\p.r.so.length<=100
def Eg(t:TypeId):Prop:=t=136\/t=137\/t=173\/t=99\/t=243
theorem af9:∀t,XTy t->Eg t:=by
 intro t h;rcases h with rfl|rfl|rfl<;>(unfold Eg;decide)
theorem yF.yu{hk:List (Nat×Option Nat)}{p:Pr}{q:TypeId->Prop}(h:yF w0 w b g gl hk p)(k:Fr (wj w q b') w w')(Z:b<=b')(aA:b<=w.heap.size)(U:¬q 173)(F:¬q 243)(h3:¬q 136)(h4:¬q 137):yF w0 w' b g gl hk p:=by
 obtain⟨⟨T,vq,vb,a1,a2,a3,a4⟩,h5,h6,h7,h8,h9,h10⟩:=h;exact⟨⟨T,vq,vb,⟨k.sD a1.1 (wj.not a1.1 h3),a1.2⟩,a2.fr k,a3.fr k,a4.rM (fun _ x=>k.OL x h4) (fun _ _ x=>x)⟩,h5.yu k U F,k.tD h6 h6.size Y,h7,h8,h9,h10⟩
theorem yF.G{hk:List (Nat×Option Nat)}{p:Pr}(h:yF w0 w b g gl hk p)(aA:b<=w.heap.size)(k:ao w w'):yF w0 w' b g gl hk p:=
 h.yu (q:=fun _=>False) (b':=b) (Fr.G k) (Nat.le_refl _) aA id id id id
def VU(w0:World)(b g gl:Nat)(R:PR)(w:World)(e:Ending)(w':World):Prop:=∃v X',e= .returned v/\tf w.heap.size w' v R.2.2/\yF w0 w' b g gl X' R.1/\sE w' gl R.2.1/\Fr (wj w Eg b) w w'
def goP(p:Pr):Prop:=p.bg.length<p.tys.length->ya p=true
def JZ(w0:World)(b g gl:Nat)(R:PR)(tk k H:Nat)(w:World)(e:Ending)(w':World):Prop:=VU w0 b g gl R w e w'/\PI R.1 R.2.1 tk k H/\goP R.1
theorem J0{c:Nat}{hk:List (Nat×Option Nat)}{l:List Xc}(h:PtL w b (.slice A (hk.map (·.1)).length c) (hk.map (·.1)))(h5:zS w b gl hk l)(i:Nat)(hi:i<l.length):∃gs off gx D,A=some ⟨gs,off,none⟩/\gs<w.heap.size/\w.cell? ⟨gs,off+i,none⟩=some (.pointer (some ⟨gx,0,none⟩))/\hk[i]?=some (gx,D)/\tJ w gx gl D l[i]/\b<=gx/\∀d,D=some d->b<=d:=by
 obtain⟨gx,D,k1,k2,k3,k4⟩:=h5.x i hi;have hX:i<(hk.map (·.1)).length:=by rw[List.length_map,h5.ln];exact hi
 obtain⟨gs,U,F,h3⟩:=rJ.rU (R:=PtI) (k:=1) (fun cs x h=>by unfold PtI at h;rw[h];rfl) h Y;obtain⟨cx,hcx,hp⟩:=h3 i hX;unfold PtI at hp;subst hp;have h4:=hcx 0 _ I;have e:(hk.map (·.1))[i]=gx:=by have:hk[i]?=some (gx,D):=k1;obtain⟨_,e⟩:=List.getElem?_eq_some_iff.1 this;rw[List.getElem_map,e]
 rw[e]at h4;exact⟨gs,0,gx,D,U,F,by simpa using h4,k1,k2,k3,k4⟩
theorem ado{p:Pr}(i:Nat)(hi:i<p.bg.length)(hd:p.bg[i].done=false):yh p=false:=by
 unfold yh;have:p.bg.all (·.done)=false:=by rw[List.all_eq_false];exact⟨_,List.getElem_mem hi,by rw[hd];decide⟩
 rw[this];rfl
theorem abh{p:Pr}(h:∀i (hi:i<p.bg.length),p.bg[i].done=true):yh p=decide (p.bg.length=p.tys.length):=by
 unfold yh;have:p.bg.all (·.done)=true:=by rw[List.all_eq_true];intro x hx;obtain⟨i,hi,rfl⟩:=List.mem_iff_getElem.1 hx;exact h i hi
 rw[this];rfl
section
variable {w0 w:World} {b g gl:Nat} {hk:List (Nat×Option Nat)} {p:Pr}
theorem Dn(h:yF w0 w b g gl hk p)(E:p.bg.length<=2):Calls prog 73 #[.pointer (some ⟨g,0,none⟩)] w (rW (.bool (yh p)) w):=by
 obtain⟨⟨T,vq,vb,a1,a2,a3,a4⟩,h5,h6,h7,h8,h9,h10⟩:=h;obtain⟨Ab,cb,hvb⟩:=a4.form;obtain⟨Aq,cq,hvq⟩:=a3.form;subst hvb hvq;have ROW:=J (fun i hi=>J0 a4 h5 i hi);have d13:w.cell? ⟨g,13,none⟩=some (.slice Ab (hk.map (·.1)).length cb):=ms;have d10:w.cell? ⟨g,10,none⟩=some (.slice Aq (UF p).length cq):=a1.c 0 I;have hXl:(hk.map (·.1)).length=p.bg.length:=ij;obtain⟨n,hn⟩:=aq p.bg.length;obtain⟨m,hm⟩:=aq p.tys.length;rw[hXl,hn.out]at d13;rw[hn.out]at E;rw[Dm,hm.out]at d10;obtain⟨R,hR⟩:=aq (yh p);rw[hR.out];have DF:=J (fun i hi hd=>(ado (p:=p) i hi hd).symm.trans hR.out);have DA:=J (fun h=>(abh (p:=p) h).symm.trans hR.out);clear a1 a2 a3 a4 h5 h6 h7 h8 h9 h10 hXl hR;go_enter func73,ntmps73;go_wp2_with fail;go_loopw[12] (fun iv wr=>∃k:Nat,k<=n/\iv= .int .i64 k/\Hid (∀i (hi:i<p.bg.length),i<k->p.bg[i].done=true)/\wr=w) (fun iv _=>n-(intOf iv).toNat)
 case atStart=>exact⟨0,Nat.zero_le _,I,J (fun i hi c=>absurd c Y),I⟩
 obtain⟨k,O,rfl,HS,rfl⟩:=hrel;by_cases aA:k<n
 case pos=>
  have h1:(k:Int)<n:=Y;have hlp:k<p.bg.length:=gM;obtain⟨gs,off,gx,D,e1,e2,e3,e4,e5,e6,e7⟩:=ROW.out k hlp;have DN:=J (Dk e5);have DF1:=J (fun hd=>DF.out k hlp hd);have HY:Hid (p.bg[k].done=true->∀i (hi:i<p.bg.length),i<k+1->p.bg[i].done=true):=J (fun h i hi c=>by
   by_cases e:i=k
   ·subst e;exact h
   ·
    exact HS.out i hi Y)
  subst e1;obtain⟨x,hx⟩:∃x,p.bg[k]=x:=gh;rw[hx]at DN DF1 HY;clear hx e4 e5 e6 e7 HS hlp;cases hd:x.done with
  |false=>rw[hd]at DN;have hRf:=J (DF1.out hd);clear HY hd DF1;go_wp2_with fail;refine DN.out.mono ?_;rintro _ w2 ⟨rfl,rfl⟩;go_wp2_with fail;go_ret;rw[<-hRf.out];exact nH
  |true=>
   rw[hd]at DN;have HS2:=J (HY.out hd);clear HY hd DF1;go_wp2_with fail;refine DN.out.mono ?_;rintro _ w2 ⟨rfl,rfl⟩;clear DN;go_wp2_with fail;go_roundw
   case rel=>exact⟨k+1,Y,fQ,HS2,trivial⟩
   case measure=>simp[intOf];omega
 have h1:¬(k:Int)<n:=Y;have hRt:decide (n=m)=R:=by rw[<-hn.out,<-hm.out];exact DA.out (fun i hi=>HS.out i hi dN)
 clear HS DA DF ROW;by_cases hnm:n=m
 ·subst hnm;have aBV:((n:Int)==(n:Int))=true:=ar;subst hRt;go_wp2_with fail;go_quiet(fail);have HW:Below wr.heap.size wr (wr.drewN nq):=below_drewN (Below.refl _ _) _;go_wp2_with fail;go_ret;exact rW.mk ar HW
 ·have aBV:((n:Int)==(m:Int))=false:=aB;rw[decide_eq_false hnm]at hRt;subst hRt;go_wp2_with fail;go_quiet(fail);have HW:Below wr.heap.size wr (wr.drewN nq):=below_drewN (Below.refl _ _) _;go_wp2_with fail;go_ret;exact rW.mk I HW
theorem Yf(h:yF w0 w b g gl hk p)(hs:∀x∈p.bg,x.r6<=1000000)(E:p.bg.length<=2):Calls prog 40 #[.pointer (some ⟨g,0,none⟩)] w (uQ (.int .i64 (Ho p)) w):=by
 obtain⟨⟨T,vq,vb,a1,a2,a3,a4⟩,h5,h6,h7,h8,h9,h10⟩:=h;obtain⟨Ab,cb,hvb⟩:=a4.form;subst hvb;have ROW:=J (fun i hi=>J0 a4 h5 i hi);have d13:w.cell? ⟨g,13,none⟩=some (.slice Ab (hk.map (·.1)).length cb):=ms;have hXl:(hk.map (·.1)).length=p.bg.length:=ij;obtain⟨n,hn⟩:=aq p.bg.length;rw[hXl,hn.out]at d13;rw[hn.out]at E;have HSN:=J hs;have hR:Hid (((p.bg.take n).map (·.r6)).sum=Ho p):=J (by rw[<-hn.out,List.take_length];rfl);clear a1 a2 a3 a4 h5 h6 h7 h8 h9 h10 hXl hs;go_enter func40,ntmps40;go_wp2_with fail;go_loopw[3,13] (fun nv iv wr=>∃k s:Nat,k<=n/\iv= .int .i64 k/\nv= .int .i64 s/\Hid (((p.bg.take k).map (·.r6)).sum=s)/\s<=1000000*k/\wr=w) (fun _ iv _=>n-(intOf iv).toNat)
 case atStart=>exact⟨0,0,Nat.zero_le _,I,I,J I,Nat.zero_le _,I⟩
 obtain⟨k,s,O,rfl,rfl,HS,hsb,rfl⟩:=hrel;by_cases aA:k<n
 case pos=>
  have h1:(k:Int)<n:=Y;have hlp:k<p.bg.length:=gM;obtain⟨gs,off,gx,D,e1,e2,e3,e4,e5,e6,e7⟩:=ROW.out k hlp;have SN:=J (XW e5);have h45:=HSN.out _ (List.getElem_mem hlp);have HY:Hid (((p.bg.take (k+1)).map (·.r6)).sum=s+p.bg[k].r6):=J (by
   rw[List.take_succ_eq_append_getElem hlp,List.map_append,List.sum_append,HS.out];simp)
  subst e1;generalize p.bg[k].r6=sk at*;clear e4 e5 e6 e7 HS hlp;go_wp2_with fail;refine SN.out.mono ?_;rintro _ w2 ⟨rfl,rfl⟩;clear SN;go_wp2_with fail;go_roundw
  case rel=>exact⟨k+1,s+sk,Y,fQ,fQ,HY,Y,trivial⟩
  case measure=>simp[intOf];omega
 have h1:¬(k:Int)<n:=Y;obtain rfl:k=n:=Y;have hR':=hR.out;rw[HS.out]at hR';clear HS ROW hR HSN;go_wp2_with fail;go_ret;rw[<-hR'];exact uQ.mk I I
end
def RU(w:World)(g i:Nat):Nat:=match w.cell? ⟨g,i,none⟩with
 |some (.slice _ n _)=>n
 |_=>0
theorem RW{n c:Nat}(h:w.cell? ⟨g,i,none⟩=some (.slice A n c)):RU w g i=n:=by
 unfold RU;rw[h]
theorem adp:(prog.info? 137).map (fun i=>(i.zero,i.size,i.bytes))=some (some (.pointer none),1,8):=by kernel_rfl
theorem agT:(prog.info? 134).map (·.size)=some 1:=by kernel_rfl
theorem OR(p:Pr)(L:Lt):(Kt p L).2.2.length<=1:=aa9 ..
theorem adq(hT:T.length=10)(vq:Value)(turn:Int)(gl:Nat)(vb v:Value):(MR T vq turn gl vb).set 13 v=MR T vq turn gl v:=by
 unfold MR;rw[show(13:Nat)=10+3 from I,OJ hT];rfl
theorem abi{o:Nat}{t:TypeId}{L:List Value}(h:Fr S w w')(Z:N w g t L)(hg:¬S g)(hr:w.rangeAt g o cs):w'.rangeAt g o cs:=by
 have e:w'.heap[g]?=w.heap[g]?:=by
  rcases h.block g Z.lt with e|e
  ·exact e
  ·exact absurd e.1 hg
 intro j v hv;exact(World.cell?_of_block (a:=⟨g,o+j,none⟩) e).trans (hr j v hv)
theorem abj{α:Type}{l:List α}(h:l.length=k+1):l.getLast?=some (l[k]'Y):=by
 have e:l.length-1=k:=Y;rw[List.getLast?_eq_getElem?,e];exact List.getElem?_eq_getElem Y
theorem J7(w0:World)(b g gl:Nat)(hk:List (Nat×Option Nat))(p:Pr)(L:Lt)(tk k H:Nat)(w:World)(h:yF w0 w b g gl hk p)(E:sE w gl L)(hI:PI p L tk k H)(O:k<=100000000)(hbw:b<=w.heap.size)(hnm:p.nm.length<=100000):
  Calls prog 79 #[.pointer (some ⟨g,0,none⟩)] w (JZ w0 b g gl (tS 3 p L []) tk k H w):=by
 obtain⟨R,hR⟩:=aq (tS 3 p L []);rw[hR.out];have HAT:=Lib.hid h;have HLT:=J E;have HII:=J hI;have aBU:=h.bg;clear h E hI;go_enter func79,ntmps79;go_wp2_with fail;go_loopw[3] (fun ov wr=>∃(f:Nat) (p1:Pr) (L1:Lt) (o1:List Ou) (A1:Option Addr) (c1:Nat) (X1:List (Nat×Option Nat)),ov= .slice A1 o1.length c1/\Hid (tS f p1 L1 o1=R)/\Hid (yF w0 wr b g gl X1 p1)/\Hid (sE wr gl L1)/\Hid (tf w.heap.size wr (.slice A1 o1.length c1) o1)/\Hid (PI p1 L1 tk k H)/\p1.nm=p.nm/\p1.tys=p.tys/\3<=f+p1.bg.length/\o1.length<=p1.bg.length/\b<=wr.heap.size/\Hid (Fr (wj w Eg b) w wr)) (fun _ wr=>3-RU wr g 13)
 case atStart=>exact⟨3,p,L,[],none,0,hk,I,hR,HAT,HLT,J (tf.nil _ _),HII,I,I,Y,Nat.zero_le _,hbw,J (Fr.refl _ _)⟩
 have aMc:=hbw;clear hR HAT HLT HII hbw;obtain⟨f,p1,L1,o1,A1,c1,X1,rfl,hR,HAT,HLT,HOU,HII,hpn,hpt,hf,hol,hbw,HFR⟩:=hrel;obtain⟨⟨T,vq,vb,a1,a2,a3,a4⟩,h5,h6,h7,h8,h9,h10⟩:=HAT.out;obtain⟨Ab,cb,hvb⟩:=a4.form;obtain⟨Aq,cq,hvq⟩:=a3.form;subst hvb hvq;have hXl:(X1.map (·.1)).length=p1.bg.length:=ij;obtain⟨ag6,hG⟩:∃ag6,X1.map (·.1)=ag6:=gh;have HG:=J hG;have aC8:=J (fun i hi=>J0 a4 h5 i hi);rw[hG]at a1 a4 hXl;clear hG;have d13:wr.cell? ⟨g,13,none⟩=some (.slice Ab ag6.length cb):=ms;have d10:wr.cell? ⟨g,10,none⟩=some (.slice Aq (UF p1).length cq):=a1.c 0 I;have htl:=HII.out.tl;have hbl:=HII.out.bl;have hlen:RU wr g 13=p1.bg.length:=by rw[RW d13,hXl]
 obtain⟨n,hn⟩:∃n,p1.bg.length=n:=gh;obtain⟨m,hm⟩:∃m,p1.tys.length=m:=gh;rw[hXl,hn]at d13;rw[Dm,hm]at d10;rw[hn]at hlen hf hol hbl;rw[hm]at htl hbl;have HN:=J hn;have HM:=J hm;have HK:=J a1;have HRO:=J a2;have HQ:=J a3;have HPT:=J a4;have HXS:=J h5;have HBA:=J h6;have HRS:=J h10;have af0:=a1.2;have ame:=a1.1.lt;have d8:wr.cell? ⟨g,8,none⟩=some (.bool p1.r.si):=by refine a1.1.rD 8 ?_;unfold MR;rw[List.getElem?_append_left Y];obtain⟨u1,u2,u3,e,_⟩:=a2;rw[e];rfl
 clear a1 a2 a3 a4 h5 h6 h10 HAT hXl hn hm;by_cases apa:n<m
 case neg=>
  have h1:¬(n:Int)<m:=Y;have hl:¬(p1.bg.length<p1.tys.length/\ya p1=false):=by rw[HN.out,HM.out];exact fun c=>apa c.1
  rw[RT _ _ hl]at hR;have hgo:Hid (goP p1):=J (fun c=>absurd c dO);clear d8 hl;go_wp2_with fail;go_quiet(fail);obtain⟨W,hW⟩:∃W,W=wr.drewN nq:=gh;rw[<-hW];have HW:ao wr W:=gV;clear hW d13 d10;go_wp2_with fail;go_ret;rw[<-hR.out];have AT:yF w0 wr b g gl X1 p1:=iF;exact⟨⟨_,X1,I,HOU.out.G HW,AT.G hbw HW,HLT.out.G HW,Fr.uP HFR.out (Fr.G HW)⟩,HII.out,hgo.out⟩
 case pos=>
  have h1:(n:Int)<m:=Y;have hlq:p1.bg.length<(UF p1).length:=by rw[Dm,HN.out,HM.out];exact apa
  go_wp2_with fail;go_quiet(fail);obtain⟨W,hW⟩:∃W,W=wr.drewN nq:=gh;rw[<-hW];have HW:ao wr W:=gV;have e13:=(HW.cell (p:=⟨g,13,none⟩) ame).trans d13;have e8:=(HW.cell (p:=⟨g,8,none⟩) ame).trans d8;clear hW d13 d10 d8;go_upto_region 4 with fail;go_cut[43] (fun v wx=>v= .bool (ya p1)/\wx=W)
  case first=>
   by_cases h0:n=0
   case pos=>
    have hw0:ya p1=false:=by have hb0:p1.bg=[]:=List.eq_nil_of_length_eq_zero (HN.out.trans h0);simp[ya,hb0]
    have aAD:=J hw0;subst h0;clear hw0;go_wp2_with fail;go_meet
    case rel=>exact⟨by rw[aAD.out],I⟩
   case neg=>
    have U:n=1:=Y;subst U;have hl1:p1.bg.length=0+1:=HN.out;obtain⟨gs,off,gx,D,q1,q2,q3,q4,q5,q6,q7⟩:=aC8.out 0 Y;have e3:W.cell? ⟨gs,off,none⟩=some (.pointer (some ⟨gx,0,none⟩)):=(HW.cell (p:=⟨gs,off,none⟩) q2).trans q3;have DN:=J (Dk (q5.G HW));have hwt:ya p1=(p1.r.si&&!(p1.bg[0]'Y).done):=by unfold ya;rw[abj hl1]
    obtain⟨x,hx⟩:∃x,p1.bg[0]'Y=x:=gh;rw[hx]at DN hwt;have HWT:=J hwt;subst q1;clear q2 q3 q4 q5 q6 q7 hx hwt;generalize p1.r.si=si,x.done=dn at*;cases si with
    |false=>clear DN;exact qD
    |true=>go_wp2_with fail;refine DN.out.mono ?_;rintro _ w2 ⟨rfl,rfl⟩;exact qD
  obtain⟨rfl,hwc⟩:=hcut;rw[hwc];clear hwc;cases hw:ya p1 with
  |true=>rw[RT _ _ (by rw[hw];exact fun c=>by cases c.2)]at hR;have HW1:=J hw;clear hw;go_wp2_with fail;go_ret;rw[<-hR.out];have AT:yF w0 wr b g gl X1 p1:=iF;exact⟨⟨_,X1,I,HOU.out.G HW,AT.G hbw HW,HLT.out.G HW,Fr.uP HFR.out (Fr.G HW)⟩,HII.out,fun _=>HW1.out⟩
  |false=>
  obtain⟨w2,hw2⟩:∃w2,w2=W:=gh;subst hw2;clear e13 e8;have hf':∃f',f=f'+1:=⟨f-1,Y⟩;obtain⟨f',rfl⟩:=hf';rw[Gp _ _ dO hw]at hR;have als:b<=w2.heap.size:=Nat.le_trans hbw HW.size;have K2:=HK.out.G HW;have RO2:=HRO.out.G HW;have Q2:YD w2 (.slice Aq (UF p1).length cq) (UF p1):=YD.fr (S:=fun _=>False) HQ.out (Fr.G HW);have PT2:PtL w2 b (.slice Ab ag6.length cb) ag6:=rJ.G HPT.out HW (fun _ _ x=>x);have XS2:=HXS.out.G HW;have LT2:=HLT.out.G HW;have OU2:=HOU.out.G HW;have BA2:=rC HBA.out HBA.out.size HW;have FR2:Fr (wj w Eg b) w w2:=Fr.uP HFR.out (Fr.G HW);clear HK HRO HQ HPT HXS HLT HOU HBA HFR HW;obtain⟨gq,hAq,hgq,ag8⟩:=rJ.rU (R:=QI w2) (k:=3) (fun _ _ x=>x.len) Q2 Y;obtain⟨cx,hcx,vn,hcv,akU⟩:=ag8 p1.bg.length hlq;rw[VT]at hcv akU;subst hcv hAq;obtain⟨Lq,hLq⟩:=rJ.Oo Q2 Y;obtain⟨LL,hLL⟩:=vj LT2;have aBu:=uU hLq hLL K;have aBy:=uU K2.1 hLL K;obtain⟨Aq2,cq2,hvn,hNR⟩:=akU.form;subst hvn;have hrs:=HRS.out;have IS2:=RO2.is BA2 Y Y Y;have hus:L1.us<=999999990:=by have:=HII.out.us;have:=HN.out;omega
  have hql:(RQ p1 p1.bg.length).name.length<=100000:=by show p1.nm.length<=100000;rw[hpn];exact hnm
  have aB2:=OR p1 L1;have SN:=J (fun ok=>HII.out.one dO ok);have hds:=HII.out.ds;obtain⟨h2,hE⟩:=aq (Kt p1 L1);obtain⟨hb,hQ⟩:=aq (qC (.slice Aq2 (RQ p1 p1.bg.length).name.length cq2) (RQ p1 p1.bg.length));have hQl:hb.length=3:=by rw[<-hQ.out];rfl
  have XN:Hid (∀V,ao w2 V->Calls prog 96 #[.agg T.toArray,.agg hb.toArray,.int .i64 (IntKind.i64.wrap (p1.turn+n)),.pointer (some ⟨gl,0,none⟩)] V (Rv gl h2 V)):=J (fun V hV=>by
   have:=aa6 T p1.r (RQ p1 p1.bg.length) Aq2 cq2 (IntKind.i64.wrap (p1.turn+p1.bg.length)) gl L1 V (IS2.G hV) (hNR.G hV) hql (LT2.G hV) hus hds;rw[hQ.out]at this;rw[<-hE.out];unfold Kt;rw[HN.out]at this⊢;exact this)
  have XNd:=J (XN.out _ ((Below.refl _ _).drew));unfold Rv at XNd;rw[hQ.out,HN.out]at hcx;have OE:Hid (Fh p1 L1={p1 with bg:=p1.bg++[h2.1]}):=J (by unfold Fh;rw[hE.out]);rw[hE.out]at hR aB2 SN;rw[OE.out]at hR SN;have HKK:=J K2;have HLQ:=J hLq;have HNR:=J (And.intro RO2 (And.intro Q2 (And.intro PT2 (And.intro XS2 (And.intro LT2 (And.intro OU2 (And.intro BA2 FR2)))))));obtain⟨tv,htv⟩:∃tv,p1.turn=tv:=gh;rw[htv]at XNd K2;clear XN IS2 hNR akU ag8 RO2 Q2 PT2 XS2 OU2 BA2 FR2 hw hE hQ hLL hrs hql;obtain⟨mq,hmq⟩:∃mq,(UF p1).length=mq:=gh;have aA5:n<mq:=by rw[<-hmq,Dm,HM.out];exact apa
  have aA7:=J hmq;rw[hmq]at K2;clear hmq;have L69:Hid (∀V v u1 u2,VS V g T v u1 gl u2->(Instr.loadAt 29 (.pointer (some ⟨g,0,none⟩))).run prog V= .ok (.agg T.toArray) V):=J (fun V v u1 u2 hV=>hV.1.tW 29 0 10 (by rw[Io af0];all_goals decide) _ underlying29 I wE _ (by rw[List.drop_zero];exact List.take_left' af0));go_upto_region 5 with fail;go_cut[5,6] (fun v5 v6 wx=>∃gx Ax cx Dx,v5= .pointer (some ⟨gx,0,none⟩)/\v6= .slice Ax h2.2.2.length cx/\Hid (tf w2.heap.size wx (.slice Ax h2.2.2.length cx) h2.2.2)/\Hid (tJ wx gx gl Dx h2.1)/\Hid (sE wx gl h2.2.1)/\Hid (Fr (fun i=>i=gl) w2.drew wx)/\w2.heap.size<=gx/\Hid (∀i,Dx=some i->w2.heap.size<=i))
  case first=>
   refine wp_region_held_drew (S:=fun V=>VS V g T (.slice (some ⟨gq,0,none⟩) mq cq) tv gl (.slice Ab ag6.length cb)/\V.rangeAt gq (0+n*3) hb) (by kernel_rfl) ⟨⟨K2.1.drew,K2.2⟩,hcx⟩ (fun hS=>?_);refine rS hS 21 [0,1,2,3,4,5,6,7,8,9,10,11,12,13,14,15,16,17,18,19,20] I (by kernel_rfl) (fun _ _ _ _ _ h=>h) I I ?_
   (refine ak (.pointer (some ⟨g,0,none⟩)) ?_;simp only[X])
   (refine ak (.pointer (some ⟨g,0,none⟩)) ?_;simp only[X])
   (refine ak (.pointer (some ⟨g,0,none⟩)) ?_;simp only[X])
   (refine aj _ I I (fun V hV=>(rX 29 (.tmp 47) ⟨g,0,none⟩ I I (L69.out V _ _ _ hV.1))) ?_;simp only[X])
   (refine ak (.pointer (some ⟨g,0,none⟩)) ?_;simp only[X])
   (refine ak (.pointer (some ⟨g,0,none⟩)) ?_;simp only[X])
   (refine ak (.pointer (some ⟨g,10,none⟩)) ?_;simp only[X])
   (refine aj _ I I (fun V hV=>(rX 133 (.tmp 51) ⟨g,10,none⟩ I I (rQ underlying133 I (hV.1.c 0 I)))) ?_;simp only[X])
   (refine ak (.int .i64 n) ?_;simp only[X])
   (refine aj _ I I (fun V hV=>(vi underlying133 xS K (.tmp 52) (.tmp 53) I I I aA5 V)) ?_;simp only[X])
   (refine aj _ I I (fun V hV=>(rX 160 (.tmp 54) ⟨gq,0+n*3,none⟩ I I (uN hV.2 underlying160 I dP))) ?_;simp only[X])
   (refine ak (.pointer (some ⟨g,0,none⟩)) ?_;simp only[X])
   (refine ak (.pointer (some ⟨g,0,none⟩)) ?_;simp only[X])
   (refine ak (.pointer (some ⟨g,11,none⟩)) ?_;simp only[X])
   (refine aj _ I I (fun V hV=>(rX 3 (.tmp 58) ⟨g,11,none⟩ I I (rQ underlying3 I (hV.1.c 1 I)))) ?_;simp only[X])
   (refine ak (.int .i64 n) ?_;simp only[X])
   (refine ak (.int .i64 (IntKind.i64.wrap (tv+n))) ?_;simp only[X])
   (refine ak (.pointer (some ⟨g,0,none⟩)) ?_;simp only[X])
   (refine ak (.pointer (some ⟨g,0,none⟩)) ?_;simp only[X])
   (refine ak (.pointer (some ⟨g,12,none⟩)) ?_;simp only[X])
   (refine aj _ I I (fun V hV=>(rX 47 (.tmp 64) ⟨g,12,none⟩ I I (rQ underlying47 I (hV.1.c 2 I)))) ?_;simp only[X])
   simp only[sS];refine su 21 (some 66) 96 #[.agg T.toArray,.agg hb.toArray,.int .i64 (IntKind.i64.wrap (tv+n)),.pointer (some ⟨gl,0,none⟩)] (by kernel_rfl) I I (by kernel_rfl) bc XNd.out ?_;rintro _ w8 ⟨gx,vo,Dx,rfl,hO8,hX8,hl8,hf8,hg8,hD8⟩;have B8:VS w8 g T (.slice (some ⟨gq,0,none⟩) mq cq) tv gl (.slice Ab ag6.length cb):=⟨hf8.sD K2.1.drew (fun e=>aBy e),K2.2⟩;have R8:=abi hf8 HLQ.out.drew (fun e=>aBu e) hcx;obtain⟨Ax,cx,hvo,-,-⟩:=hO8.form;subst hvo;refine⟨_,I,⟨B8,R8⟩,?_⟩;have HO8:=J hO8;have HX8:=J hX8;have HL8:=J hl8;have HF8:=J hf8;have HD8:=J hD8;clear XNd hS hO8 hX8 hl8 hf8 hD8;have hS:=And.intro B8 R8;clear B8 R8;simp only[X];refine rS hS 5 [22,23,24,25,26] I (by kernel_rfl) (fun _ _ _ _ _ h=>h) I I ?_
   (refine ak (.tuple #[.pointer (some ⟨gx,0,none⟩),.slice Ax h2.2.2.length cx]) ?_;simp only[X])
   (refine ak (.pointer (some ⟨gx,0,none⟩)) ?_;simp only[X])
   (refine ak (.slice Ax h2.2.2.length cx) ?_;simp only[X])
   (refine ak (.pointer (some ⟨gx,0,none⟩)) ?_;simp only[X])
   (refine ak (.slice Ax h2.2.2.length cx) ?_;simp only[X])
   simp only[sS];refine wpAnyH_done (by kernel_rfl) ?_ _;go_wp2_with fail;go_meet
   case rel=>exact⟨gx,Ax,cx,Dx,I,I,HO8,HX8,HL8,HF8,hg8,HD8⟩
  obtain⟨gx,Ax,cx2,Dx,rfl,rfl,HO8,HX8,HL8,HF8,hgx,HD8⟩:=hcut;obtain⟨w8,rfl⟩:∃w8,w8=wc:=gh;clear XNd hcx L69;obtain⟨RO2,Q2,PT2,XS2,LT2,OU2,BA2,FR2⟩:=HNR.out;have kd:Below w2.heap.size w2 w2.drew:=ix;have hkd:w2.drew.heap.size=w2.heap.size:=rfl;have hf8:=HF8.out;have F8:Fr (wj w2 XTy b) w2 w8:=Fr.uP (Fr.G kd) (hf8.mono (fun i hi=>by
   subst hi;obtain⟨cs,Z⟩:=vj (LT2.G kd);exact⟨h9,_,_,Z,.inr (.inl I)⟩))
  have XS8:=(XS2.G kd).Ce (LT2.G kd) hf8 HX8.out hgx HD8.out als;have K8:VS w8 g T (.slice (some ⟨gq,0,none⟩) mq cq) tv gl (.slice Ab ag6.length cb):=⟨F8.sD K2.1 (wj.not K2.1 dQ),K2.2⟩;have RO8:=RO2.fr F8;have Q8:=YD.fr Q2 F8;have PT8:PtL w8 b (.slice Ab ag6.length cb) ag6:=PT2.rM (fun _ x=>F8.OL x dQ) (fun _ _ x=>x);have OU8:=OU2.frY F8 dQ;have BA8:=F8.tD BA2 BA2.size Y;have FR8:=Fr.uP FR2 (F8.RJ af9);have avo:b<=w8.heap.size:=Nat.le_trans als F8.size;have d13:w8.cell? ⟨g,13,none⟩=some (.slice Ab ag6.length cb):=K8.c 3 I;have kz:Below w8.heap.size w8 (w8.alloc (.cells #[.pointer (some ⟨gx,0,none⟩)] 137)):=fZ;have BN:N (w8.alloc (.cells #[.pointer (some ⟨gx,0,none⟩)] 137)) w8.heap.size 137 [.pointer (some ⟨gx,0,none⟩)]:=N.new w8 137 [.pointer (some ⟨gx,0,none⟩)];have PTz:PtL (w8.alloc (.cells #[.pointer (some ⟨gx,0,none⟩)] 137)) b (.slice Ab ag6.length cb) ag6:=rJ.G PT8 kz (fun _ _ x=>x);have Kz:=K8.G kz;have hXn:ag6.length<=2:=by rw[<-HG.out,List.length_map,XS2.ln,HN.out];omega
  have hl:(Value.slice Ab ag6.length cb).ownBlock≠some w8.heap.size:=rJ.ne PT8 (Nat.le_refl _);have an6:=J PTz;have HKz:=J Kz;have HH8:=J (And.intro RO8 (And.intro Q8 (And.intro XS8 (And.intro OU8 (And.intro BA8 FR8)))));have HKZ:=J kz;have arf:b<=(w8.alloc (.cells #[.pointer (some ⟨gx,0,none⟩)] 137)).heap.size:=Nat.le_trans avo kz.size;clear RO2 Q2 PT2 XS2 LT2 OU2 BA2 FR2 F8 hf8 XS8 K8 RO8 Q8 PT8 OU8 BA8 FR8 HNR HKK K2 HLQ hLq HF8 kd PTz Kz;go_wp2_with(at_builtin;go_must(refine sJ _ I (.tmp 73) (.tmp 75) 134 I 137 (.pointer none) 1 8 underlying134 adp I K (R:=PtI) b _ _ I an6.out arf w8.heap.size [.pointer (some ⟨gx,0,none⟩)] gx I BN hl I aO I aL Y ?_));intro v9 w9 O9 g9;obtain⟨G2,hG2⟩:=aq (ag6++[gx]);rw[hG2.out]at O9;obtain⟨A9,c9,hv9⟩:=rJ.form O9;subst hv9;have B9:=rJ.wF an6.out HKz.out.1 K g9;have F9:Fr (wj w8 Eg b) w8 w9:=Fr.uP (Fr.G HKZ.out) (rJ.OM an6.out g9 bV dR);have F9x:Fr (wj w8 (fun t=>t=137) b) w8 w9:=Fr.uP (Fr.G HKZ.out) (rJ.OM an6.out g9 bV I);have HO9:=J O9;obtain⟨L9,hL9⟩:=aq (MR T (.slice (some ⟨gq,0,none⟩) mq cq) tv gl (.slice Ab ag6.length cb));have SL9:L9.length=14:=by rw[<-hL9.out];exact Io af0 ..
  rw[hL9.out]at B9;clear O9 g9 an6 HKz d13 BN hl kz arf;go_wp2_with(refine rF (.store 134 (.tmp 78) (.tmp 76)) I (af I g 13 (.slice A9 G2.length c9) B9 (by rw[SL9];decide) agT ?_));intro w10 B10 g10 sw;clear sw;rw[<-hL9.out,adq af0]at B10;have K10:VS w10 g T (.slice (some ⟨gq,0,none⟩) mq cq) tv gl (.slice A9 G2.length c9):=⟨B10,af0⟩;have F10:Fr (wj w9 (fun t=>t=136) b) w9 w10:=Fr.grown g10 B9 bV ⟨aBU,_,_,B9,I⟩;obtain⟨RO8,Q8,XS8,OU8,BA8,FR8⟩:=HH8.out;have awt:=(RO8.fr F9).fr F10;have Q10:=YD.fr (YD.fr Q8 F9) F10;have awo:=(XS8.yu F9x K K).yu F10 K K;have apD:=J ((OU8.frY F9x K).frY F10 K);have awy:=J ((HO8.out.frY F9x K).frY F10 K);have awF:=(HL8.out.yu F9x K).yu F10 K;have awx:PtL w10 b (.slice A9 G2.length c9) G2:=HO9.out.rM (fun _ x=>F10.OL x K) (fun _ _ x=>x);have asL:=Fr.uP (Fr.uP FR8 F9) (F10.RJ (q:=Eg) (fun t h=>.inl h));have BA9:=F9.tD BA8 BA8.size h7;have axE:=F10.tD BA9 BA9.size h7;have hmp:(X1++[(gx,Dx)]).map (·.1)=G2:=by rw[List.map_append,HG.out];exact hG2.out
  have axH:yF w0 w10 b g gl (X1++[(gx,Dx)]) {p1 with bg:=p1.bg++[h2.1]}:=⟨⟨T,_,_,by show VS w10 g T _ p1.turn gl _;rw[htv];exact K10,awt,by show YD w10 _ (UF p1);rw[<-aA7.out];exact Q10,by rw[hmp];exact awx⟩,awo,axE,h7,h8,h9,HRS.out⟩;have aqt:b<=w10.heap.size:=Nat.le_trans avo (Nat.le_trans F9.size F10.size);have aAC:w.heap.size<=w10.heap.size:=asL.size;have hoo:o1.length+h2.2.2.length<=100000:=Y;have aq2:=J axH;have aqW:=J awF;have aq0:=J asL;clear B10 g10 K10 F10 F9 F9x RO8 Q8 XS8 OU8 BA8 FR8 awt Q10 awo awx BA9 axE axH awF asL HO9 HH8 HO8 HL8 B9 HKZ;go_wp2_with(at_builtin;go_must(refine uw _ I (.tmp 79) (.tmp 80) I I I apD.out awy.out aAC hoo ?_));intro v' w11 arl arE;obtain⟨A',c',hv',-,-⟩:=arl.form;have F11:Fr (wj w10 Dy b) w10 w11:=arE.mono (fun i hi=>by obtain⟨k1,k2⟩:=apD.out.Fg (p:=Dy) I i hi;exact⟨Y,k2⟩);have asU:=aq2.out.yu F11 (Nat.le_refl _) aqt dS dS dS dS;have awE:=aqW.out.yu F11 dS;have axw:Fr (wj w Eg b) w w11:=aq0.out.trans arE (fun i hi c=>by have:=(apD.out.Fg (p:=Dy) I i c).1;omega);have avr:b<=w11.heap.size:=Nat.le_trans aqt F11.size;have aBi:RU w11 g 13=n+1:=by obtain⟨⟨T',vq',vb',k1,k2,k3,k4⟩,k5,_⟩:=asU;obtain⟨Ax',cx',e⟩:=k4.form;subst e;rw[RW (k1.c 3 I),List.length_map,k5.ln];show(p1.bg++[h2.1]).length=n+1;rw[List.length_append,HN.out];rfl
  have akR:(p1.bg++[h2.1]).length=n+1:=by rw[List.length_append,HN.out];rfl
  have SW:=J (SN.out HX8.out.ok);have OW:=J arl;have FW:=J axw;have AW:=J asU;have LW:=J awE;subst hv';clear arl arE F11 asU awE axw apD awy aq2 aqW aq0 SN HX8 HD8;go_wp2_with fail;go_roundw
  case rel=>exact⟨f',{p1 with bg:=p1.bg++[h2.1]},h2.2.1,o1++h2.2.2,A',c',X1++[(gx,Dx)],I,hR,AW,LW,OW,SW,hpn,hpt,by show 3<=f'+(p1.bg++[h2.1]).length;omega,by show(o1++h2.2.2).length<=(p1.bg++[h2.1]).length;rw[List.length_append];omega,avr,FW⟩
  case measure=>rw[hlen,aBi];omega
end Go.Proofs.YtakkipnmpmobbaaGreat
