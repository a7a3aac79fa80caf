/-
  Layer 12 (packed):what a name's reading comes to,plainly;octet and label.
-/
import Derived.Test.YthnbcmlnpdabhaaGreatGAq
namespace Go.Proofs.YthnbcmlnpdabhaaGreat
open _root_.Go.Proofs.Tryz
set_option maxHeartbeats 8000000
open Go.RowKit
set_option maxRecDepth 100000
set_option linter.unusedVariables false
variable {a abx d:Nat} {w w1:World} {v:Value} {P:Program}
structure GS where
 at':Nat
 size:Nat
 bound:Nat
 behind:Option Nat
 acc:List (List UInt8)
inductive GO where
 |go (s:GS)
 |err (e:Int)
 |ok (l:List (List UInt8)) (n:Nat)
def xB(m:List UInt8)(s:GS):GO:=
 if m.length<=s.at' then .err 1
 else if(m.getD s.at' 0).toNat=0 then .ok s.acc (s.behind.getD (s.at'+1))
 else if(m.getD s.at' 0).toNat<=63 then
  if m.length<s.at'+1+(m.getD s.at' 0).toNat then .err 1
  else if 255<s.size+((m.getD s.at' 0).toNat+1)then .err 3
  else .go {s with at':=s.at'+1+(m.getD s.at' 0).toNat,size:=s.size+((m.getD s.at' 0).toNat+1),acc:=s.acc++[(m.take (s.at'+1+(m.getD s.at' 0).toNat)).drop (s.at'+1)]}
 else if(m.getD s.at' 0).toNat<192 then .err 7
 else if m.length<=s.at'+1 then .err 1
 else if s.bound<=(m.getD s.at' 0).toNat*256+(m.getD (s.at'+1) 0).toNat-49152 then .err 9
 else .go {s with at':=(m.getD s.at' 0).toNat*256+(m.getD (s.at'+1) 0).toNat-49152,bound:=(m.getD s.at' 0).toNat*256+(m.getD (s.at'+1) 0).toNat-49152,behind:=some (s.behind.getD (s.at'+2))}
inductive Dg (m:List UInt8):GS->GO->Prop where
 |err {s e}:xB m s= .err e->Dg m s (.err e)
 |ok {s l n}:xB m s= .ok l n->Dg m s (.ok l n)
 |go {s s' o}:xB m s= .go s'->Dg m s' o->Dg m s o
def EM(s:GS):Nat:=s.bound*300+(300-s.size)
theorem Rp{m:List UInt8}{s s':GS}(h:xB m s= .go s')(hs:s.size<=255):EM s'<EM s/\s'.size<=255:=by
 unfold xB at h
 repeat' split at h
 all_goals first
  |(injection h with h;subst h;simp only[EM];constructor<;>omega)
  |exact GO.noConfusion h
theorem Cy{m:List UInt8}{s:GS}{o:GO}{e:Int}(h:Dg m s o)(he:xB m s= .err e):o= .err e:=by
 cases h<;>simp_all
theorem VU{m:List UInt8}{s:GS}{o:GO}{l n}(h:Dg m s o)(he:xB m s= .ok l n):o= .ok l n:=by
 cases h<;>simp_all
theorem KC{m:List UInt8}{s s':GS}{o:GO}(h:Dg m s o)(he:xB m s= .go s'):Dg m s' o:=by
 cases h<;>simp_all
def Fg(w:World)(g:Nat)(m:List UInt8)(a abx:Nat)(v:Value):Prop:=F w g 363 [.string (bs m),.int .i64 a,.int .i64 abx,v]
def Rr(e:Int):List PanicEntry:=[{v:=.iface 360 (.agg #[.int .i64 e]),recovered:=false}]
def Uw(m:List UInt8)(g a abx:Nat)(v:Value)(w:World)(e:Ending)(w':World):Prop:=
 e= .returned (.int .i64 ((m.getD a 0).toNat:Int))/\Fg w' g m (a+1) abx v/\w.grownBy w' (some g)/\w'.heap.size=w.heap.size
def adg(x:Int)(g:Nat)(w:World)(e:Ending)(w':World):Prop:=e= .panicked (Rr x)/\w.grownBy w' (some g)
theorem NQ(g:Nat)(m:List UInt8)(a abx:Nat)(v:Value)(w:World)(h:Fg w g m a abx v)(hl:m.length<=4000000)(ha:a<m.length):
  Calls prog 260 #[.pointer (some ⟨g,0,none⟩)] w (Uw m g a abx v w):=by
 have c0:=h.M 0 J;have c1:=h.M 1 J;have f1:=h.frozen 1;have ha':(a:Int)<m.length:=I;have hd:m.getD a 0=m[a]:=by simp[ha]
 go_enter func260,ntmps260;go_wp2_with fail;go_quiet(fail);go_wp2_with fail;go_quiet(fail);go_wp2_with fail;go_ret;refine⟨?_,?_,yt (uS (yt (World.grownBy.refl _ _) _) _ _) _,by simp[World.setCell]⟩
 ·rw[hd];exact yE (IntWalk.wrap64_in _ (by have:=m[a].toNat_lt;omega))
 ·exact((h.drewN _).set 1 _).drewN _
theorem Rt(g:Nat)(m:List UInt8)(a abx:Nat)(v:Value)(w:World)(h:Fg w g m a abx v)(hl:m.length<=4000000)(ha:m.length<=a):
  Calls prog 260 #[.pointer (some ⟨g,0,none⟩)] w (adg 1 g w):=by
 have c0:=h.M 0 J;have c1:=h.M 1 J;have ha':(m.length:Int)<=a:=I;go_enter func260,ntmps260;exact qT
def adD(m:List UInt8)(g a abx c:Nat)(l:List (List UInt8))(lo:Nat)(w:World)(e:Ending)(w':World):Prop:=
 e= .returned (.tuple #[])/\∃v,Fg w' g m (a+c) (abx+(c+1)) v/\wO w' v (l++[(m.take (a+c)).drop a])/\Below lo w w'/\(∀k,v.ownBlock=some k->lo<=k/\k≠g)
theorem Ru(g:Nat)(m:List UInt8)(a abx c:Nat)(v:Value)(w:World)(h:Fg w g m a abx v)(hl:m.length<=4000000)(ha:a<=m.length)(hc:c<=63)(hs:m.length<a+c):
  Calls prog 261 #[.pointer (some ⟨g,0,none⟩),.int .i64 c] w (adg 1 g w):=by
 have c0:=h.M 0 J;have c1:=h.M 1 J;have hs':(m.length:Int)-a<c:=I;go_enter func261,ntmps261;exact qT
def adF(m:List UInt8)(g a abx c:Nat)(l:List (List UInt8))(lo:Nat)(w:World)(e:Ending)(w':World):Prop:=
 (abx+(c+1)<=255/\adD m g a abx c l lo w e w')\/(255<abx+(c+1)/\e= .panicked (Rr 3)/\Below lo w w')
def Za(m:List UInt8)(g a abx c:Nat)(l:List (List UInt8))(lo:Nat)(w wx:World):Prop:=
 ∃v,Fg wx g m a abx v/\wO wx v (l++[(m.take (a+c)).drop a])/\Below lo w wx/\(∀k,v.ownBlock=some k->lo<=k/\k≠g)
theorem adG{m:List UInt8}{g c gg cap:Nat}{l:List (List UInt8)}{lo:Nat}{W:World}{o:Obj}(U:Fg w1 g m a abx v)(hB:Below lo w W)(uw:lo<=g)(hgl:g<W.heap.size)
  (hOB:Hid (∀k,v.ownBlock=some k->lo<=k/\k≠g))
  (adU:w1.ownsRow 0 9 1 (.slice (some ⟨gg,0,none⟩) (l.length+1) cap) (l.length+1) (l.map (fun t=>Value.string (bs t))++[.string (bs ((m.take (a+c)).drop a))]))
  (agJ:(W.alloc o).drew.grownBy w1 v.ownBlock) (hat:v.ownBlock=some gg\/gg=W.heap.size+1):
  Za m g a abx c l lo w (w1.setCell ⟨g,3,none⟩ (.slice (some ⟨gg,0,none⟩) (l.length+1) cap)):=by
 have hne:gg≠g/\lo<=gg:=by
  rcases hat with h|h
  ·have:=hOB.out gg h;exact⟨this.2,this.1⟩
  ·have:=hB.size;omega
 refine⟨_,U.set 3 _,?_,?_,?_⟩
 ·have:=ownsRow_setCell_other adU (a:=⟨g,3,none⟩) aN (.slice (some ⟨gg,0,none⟩) (l.length+1) cap);unfold wO;simpa using this
 ·refine Below.setCell ?_ uw _;exact(hB.alloc I o).drew.grown agJ aA (fun k z=>(hOB.out k z).1)
 ·intro k z;simp[Value.ownBlock]at z;omega
theorem W9(g:Nat)(m:List UInt8)(a abx c:Nat)(v:Value)(l:List (List UInt8))(lo:Nat)(w:World)(h:Fg w g m a abx v)(ht:wO w v l)(uw:lo<=g)(hob:∀k,v.ownBlock=some k->lo<=k/\k≠g)(hl:m.length<=4000000)(hll:l.length<=300)(hz:abx<=255)(hc:c<=63)(hs:a+c<=m.length):
  Calls prog 261 #[.pointer (some ⟨g,0,none⟩),.int .i64 c] w (adF m g a abx c l lo w):=by
 have c0:=h.M 0 J;have c1:=h.M 1 J;have c3:=h.M 3 J;have hs2:(a:Int)+c<=m.length:=I;go_enter func261,ntmps261;go_wp2_with fail;go_quiet(fail);go_upto_region 2 with fail;obtain⟨i0,hi0,hz0,hz1,hz2⟩:=info_parts Ei;obtain⟨W,hW⟩:∃W,W=w.drewN nq:=gG;rw[<-hW];have h':Fg W g m a abx v:=hW▸h.drewN _;have ht':wO W v l:=hW▸ht;have hB:Below lo w W:=kz;have hOB:=Y hob;clear hW h ht hob c0 c1 c3;have hgl:=h'.lt;go_cut[] (fun wx=>Za m g a abx c l lo w wx)
 case first=>
  have c0:=h'.M 0 J;have c1:=h'.M 1 J;have c3:=h'.M 3 J;have hw1:IntKind.i64.wrap ((a:Int)+c)=(a:Int)+c:=jk;have hn1:((a:Int)+c).toNat=a+c:=I;have hp2:(a:Int)<=(a:Int)+c:=I;have hne:some g≠v.ownBlock:=fun e=>(hOB.out g e.symm).2 J
  go_region_law(refine step_append_lies _ J (.tmp 22) (.tmp 38) _ aO 0 9 i0 _ 1 16 underlying26 hi0 hz0 hz1 hz2 J az v l.length _ aO (World.ownsRow.alloc ht' _) ⟨W.heap.size,0,none⟩ 1 1 [.string (bs ((m.take (a+c)).drop a))] aO aO (Cg _ _ _ _ J) aP I aK I (Nat.zero_le _) (W.heap.size+1) ap ?_;intro gg cap w1 agO agJ hat aB;have U:Fg w1 g m a abx v:=(F.alloc (F.drew h') _).grown agJ hne;have k3:=U.M 3 J;have kf:=U.frozen 3;clear c0 c1 c3);all_goals(go_wp2_with fail;go_meet;exact adG U hB uw hgl hOB agO agJ hat)
 case rest=>
  obtain⟨v',X,ht2,hB2,asF⟩:=hcut;clear h' ht' hB hOB;have c1:=X.M 1 J;have c2:=X.M 2 J;have f1:=X.frozen 1;have f2:=X.frozen 2;have HOB:=Y asF;clear asF;by_cases hz3:abx+(c+1)<=255
  ·
   have axl:(abx:Int)+((c:Int)+1)<=255:=I;go_wp2_with fail;go_end0;refine .inl ⟨hz3,J,v',?_,?_,(hB2.setCell uw _).setCell uw _,HOB.out⟩
   ·have:=(X.set 1 (.int .i64 ((a:Int)+c))).set 2 (.int .i64 ((abx:Int)+(c+1)));unfold Fg;rw[show((a+c:Nat):Int)=(a:Int)+c by omega,show((abx+(c+1):Nat):Int)=(abx:Int)+(c+1)by omega];exact this
   ·
    have z:∀k,v'.ownBlock=some k->k≠g:=fun k z=>(HOB.out k z).2
    exact ownsRow_setCell_other (ownsRow_setCell_other ht2 (fun e=>z g e J) _) (fun e=>z g e J) _
  ·have axl:(255:Int)<(abx:Int)+((c:Int)+1):=I;go_wp2_with fail;exact⟨J,.inr ⟨I,J,(hB2.setCell uw _).setCell uw _⟩⟩
def abG(m:List UInt8)(g lo:Nat)(w:World)(o:GO)(e:Ending)(w':World):Prop:=
 match o with
 | .err x=>e= .panicked (Rr x)/\Below lo w w'
 | .ok l n=>e= .returned (.int .i64 n)/\∃v a abx,Fg w' g m a abx v/\wO w' v l/\Below lo w w'/\(∀k,v.ownBlock=some k->lo<=k/\k≠g)
 | .go _=>False
def Pu:Option Nat->Int
 |none=> -1
 |some b=>b
def aeT(m:List UInt8)(g lo:Nat)(w:World)(o:GO)(k:Nat)(behind bound:Value)(wr:World):Prop:=
 ∃(s:GS) (v:Value),EM s<=k/\Dg m s o/\s.at'<=m.length/\s.bound<=m.length/\s.size<=255/\s.acc.length<=s.size/\behind= .int .i64 (Pu s.behind)/\(∀b,s.behind=some b->b<=m.length)/\bound= .int .i64 s.bound/\
  Fg wr g m s.at' s.size v/\wO wr v s.acc/\Below lo w wr/\(∀k,v.ownBlock=some k->lo<=k/\k≠g)
theorem Lf{m:List UInt8}{s s':GS}{o:GO}(hg:Dg m s o)(h:xB m s= .go s')(hs:s.size<=255):Dg m s' o/\EM s'<EM s:=⟨KC hg h,(Rp h hs).1⟩
section
variable {m:List UInt8} {at' size bound c:Nat} {behind:Option Nat} {acc:List (List UInt8)}
theorem Pv(U:¬m.length<=at')(hc:0=(m.getD at' 0).toNat):xB m ⟨at',size,bound,behind,acc⟩= .ok acc (behind.getD (at'+1)):=by
 unfold xB;simp only;rw[if_neg U,if_pos hc.symm]
theorem Rv(U:¬m.length<=at')(hc:c=(m.getD at' 0).toNat)(h0:c≠0)(h63:c<=63)(hs:m.length<at'+1+c):xB m ⟨at',size,bound,behind,acc⟩= .err 1:=by
 unfold xB;simp only;rw[<-hc,if_neg U,if_neg h0,if_pos h63,if_pos hs]
theorem VV(U:¬m.length<=at')(hc:c=(m.getD at' 0).toNat)(h0:c≠0)(h63:c<=63)(hs:¬m.length<at'+1+c)(hz:255<size+(c+1)):xB m ⟨at',size,bound,behind,acc⟩= .err 3:=by
 unfold xB;simp only;rw[<-hc,if_neg U,if_neg h0,if_pos h63,if_neg hs,if_pos hz]
theorem Pw(U:¬m.length<=at')(hc:c=(m.getD at' 0).toNat)(h0:c≠0)(h63:c<=63)(hs:¬m.length<at'+1+c)(hz:¬255<size+(c+1)):
  xB m ⟨at',size,bound,behind,acc⟩= .go ⟨at'+1+c,size+(c+1),bound,behind,acc++[(m.take (at'+1+c)).drop (at'+1)]⟩:=by
 unfold xB;simp only;rw[<-hc,if_neg U,if_neg h0,if_pos h63,if_neg hs,if_neg hz]
theorem Zb(U:¬m.length<=at')(hc:c=(m.getD at' 0).toNat)(h63:¬c<=63)(ahz:c<192):xB m ⟨at',size,bound,behind,acc⟩= .err 7:=by
 unfold xB;simp only;rw[<-hc,if_neg U,if_neg I,if_neg h63,if_pos ahz]
theorem NR(U:¬m.length<=at')(hc:c=(m.getD at' 0).toNat)(ahz:¬c<192)(hs:m.length<=at'+1):xB m ⟨at',size,bound,behind,acc⟩= .err 1:=by
 unfold xB;simp only;rw[<-hc,if_neg U,if_neg I,if_neg I,if_neg ahz,if_pos hs]
theorem VW(U:¬m.length<=at')(hc:c=(m.getD at' 0).toNat)(ahz:¬c<192)(hs:¬m.length<=at'+1)(hd:d=(m.getD (at'+1) 0).toNat)(Z:bound<=c*256+d-49152):xB m ⟨at',size,bound,behind,acc⟩= .err 9:=by
 unfold xB;simp only;rw[<-hc,<-hd,if_neg U,if_neg I,if_neg I,if_neg ahz,if_neg hs,if_pos Z]
theorem Px(U:¬m.length<=at')(hc:c=(m.getD at' 0).toNat)(ahz:¬c<192)(hs:¬m.length<=at'+1)(hd:d=(m.getD (at'+1) 0).toNat)(Z:¬bound<=c*256+d-49152):
  xB m ⟨at',size,bound,behind,acc⟩= .go ⟨c*256+d-49152,size,c*256+d-49152,some (behind.getD (at'+2)),acc⟩:=by
 unfold xB;simp only;rw[<-hc,<-hd,if_neg U,if_neg I,if_neg I,if_neg ahz,if_neg hs,if_neg Z]
end
theorem Fg.lt{g:Nat}{m:List UInt8}(h:Fg w g m a abx v):g<w.heap.size:=F.lt h
theorem Lh{lo g:Nat}{wr:World}(hB:Below lo w wr)(hg:wr.grownBy w1 (some g))(aB:g<wr.heap.size)(uw:lo<=g):Below lo w w1:=hB.grown hg I aQ
theorem Zc(g:Nat)(m:List UInt8)(a:Nat)(lo:Nat)(o:GO)(w:World)(h:Fg w g m a 1 (.slice none 0 0))(uw:lo<=g)(hl:m.length<=4000000)(ha:a<=m.length)(ho:Dg m ⟨a,1,a,none,[]⟩ o):
  Calls prog 255 #[.pointer (some ⟨g,0,none⟩)] w (abG m g lo w o):=by
 have c1:=h.M 1 J;go_enter func255,ntmps255;go_wp2_with fail;go_loopg [3,4] (EM ⟨a,1,a,none,[]⟩) (fun k behind bound wr=>aeT m g lo w o k behind bound wr)
 case atStart=>exact⟨⟨a,1,a,none,[]⟩,.slice none 0 0,Nat.le_refl _,ho,ha,ha,ap,ap,J,ap,J,h,wO.nil _,Below.refl _ _,by simp[Value.ownBlock]⟩
 case round=>
  clear c1 h ho;obtain⟨⟨at',size,bound,behind,acc⟩,v,z,hG,hat,hbd,hsz,akd,rfl,hbh,rfl,hR,hT,hB,hob⟩:=hrel;simp only at z hG hat hbd hsz akd hbh hR hT;have HG:=Y hG;have HOB:=Y hob;have HBH:=Y hbh;clear hG hob hbh;by_cases U:m.length<=at'
  ·have e1:o= .err 1:=oF;subst e1;go_wp2_with fail;refine(Rt g m at' size v _ hR hl U).mono ?_;rintro e w1 ⟨rfl,hg⟩;go_wp2_with fail;exact⟨J,J,hB.grown hg aR aQ⟩
  ·
   have C:=NQ g m at' size v wr hR hl I;obtain⟨c,hc⟩:∃c,c=(m.getD at' 0).toNat:=gG;have atf:c<256:=ni;unfold Uw at C;rw[<-hc]at C;have HC:=Y hc;clear hc;go_wp2_with fail;refine C.mono ?_;rintro e w1 ⟨rfl,hR1,hg1,hs1⟩;have hB1:Below lo w w1:=hB.grown hg1 aR aQ;have hT1:wO w1 v acc:=hT.grown hg1 hR az;clear C hR hT hB hg1 hs1;clear wr;have hg1:=hR1.lt;by_cases h0:c=0
   ·
    subst h0;have r1:=hR1.M 1 J;cases behind with
    |none=>have e1:o= .ok acc (at'+1):=jn;subst e1;unfold Pu;go_wp2_with fail;go_ret;exact⟨yE (by go_num),v,_,_,hR1,hT1,hB1,HOB.out⟩
    |some b=>have e1:o= .ok acc b:=jn;subst e1;unfold Pu;go_wp2_with fail;go_ret;exact⟨J,v,_,_,hR1,hT1,hB1,HOB.out⟩
   ·
    have h0':((c:Int)==0)=false:=aA;by_cases h63:c<=63
    ·
     have ap6:(c:Int)<=63:=I;by_cases hs:m.length<at'+1+c
     ·have e1:o= .err 1:=mT;subst e1;clear h0;go_wp2_with fail;refine(Ru g m (at'+1) size c v _ hR1 hl I h63 I).mono ?_;exact sP
     ·
      have C:=W9 g m (at'+1) size c v acc lo w1 hR1 hT1 uw HOB.out hl I hsz h63 I;by_cases hz:255<size+(c+1)
      ·
       have e1:o= .err 3:=mH;subst e1;clear h0;go_wp2_with fail;refine C.mono ?_;rintro e w2 (⟨h,_⟩|⟨_,rfl,Z⟩)
       ·omega
       go_wp2_with fail;exact⟨J,J,hB1.trans Z⟩
      ·
       obtain⟨G2,M2⟩:=Lf HG.out (Pw U HC.out h0 h63 hs hz) hsz;have HG2:=Y G2;have hm2:=Nat.lt_of_lt_of_le M2 z;clear h0 G2 M2;go_wp2_with fail;refine C.mono ?_;rintro e w2 (⟨_,rfl,v2,hR2,hT2,hB2,ho2⟩|⟨h,_⟩)
       ·
        go_wp2_with fail;go_roundg (EM ⟨at'+1+c,size+(c+1),bound,behind,acc++[(m.take (at'+1+c)).drop (at'+1)]⟩)
        case measure=>exact hm2
        case rel=>exact⟨_,v2,Nat.le_refl _,HG2.out,aA,hbd,aA,aA,J,HBH.out,J,hR2,hT2,hB1.trans hB2,ho2⟩
       ·omega
    ·
     have ap6:(63:Int)<c:=I;by_cases ahz:c<192
     ·have amj:(c:Int)<192:=I;have e1:o= .err 7:=nB;subst e1;clear h0;go_wp2_with fail;exact⟨J,J,hB1⟩
     ·
      have amj:(192:Int)<=c:=I;by_cases hps:m.length<=at'+1
      ·have e1:o= .err 1:=mU;subst e1;clear h0;go_wp2_with fail;refine(Rt g m (at'+1) size v _ hR1 hl hps).mono ?_;exact sP
      ·
       have C:=NQ g m (at'+1) size v w1 hR1 hl I;obtain⟨d,hd⟩:∃d,d=(m.getD (at'+1) 0).toNat:=gG;have ata:d<256:=nh;unfold Uw at C;rw[<-hd]at C;have HD:=Y hd;clear hd h0;go_wp2_with fail;refine C.mono ?_;rintro e w2 ⟨rfl,hR2,hg2,hs2⟩;have hB2:Below lo w w2:=Lh hB1 hg2 hg1 uw;have hT2:wO w2 v acc:=hT1.grown hg2 hR1 az;clear C hR1 hT1 hB1 hg2 hs2 hg1;clear w1;have r1:=hR2.M 1 J;have fr1:=hR2.frozen 1;by_cases hpb:bound<=c*256+d-49152
       ·have e1:o= .err 9:=lV;subst e1;have apl:(bound:Int)<=(c:Int)*256+d-49152:=I;go_wp2_with fail;exact⟨J,J,hB2⟩
       ·
        obtain⟨G2,M2⟩:=Lf HG.out (Px U HC.out ahz hps HD.out hpb) hsz;have HG2:=Y G2;have HM:=Y (Nat.lt_of_lt_of_le M2 z);have apl:(c:Int)*256+d-49152<bound:=I;clear G2 M2;obtain⟨q,hq⟩:∃q,q=c*256+d-49152:=gG;rw[<-hq]at HG2 HM;have hqi:(c:Int)*256+d-49152=q:=I;have HQ:=Y hqi;have hqb:q<bound:=I;have apj:at'+2<=m.length:=I;clear hq hqi hpb U hps z;have hR3:∀u,u=Value.int .i64 (q:Int)->Fg (w2.setCell ⟨g,1,none⟩ u) g m q size v:=fun u hu=>by subst hu;exact hR2.set 1 _
        have hT3:∀u,wO (w2.setCell ⟨g,1,none⟩ u) v acc:=fun u=>ownsRow_setCell_other hT2 (fun e=>(HOB.out g e).2 J) _
        have HR3:=Y hR3;have HT3:=Y hT3;clear hR3 hT3;cases behind with
        |none=>
         unfold Pu;go_wp2_with fail;go_roundg (EM ⟨q,size,q,some (at'+2),acc⟩)
         case measure=>exact HM.out
         case rel=>exact⟨_,v,Nat.le_refl _,HG2.out,gu,gu,hsz,akd,congrArg (Value.int .i64) (show(at':Int)+1+1=((at'+2:Nat):Int)by omega),(fun b Z=>by injection Z with Z;subst Z;exact apj),by rw[HQ.out],HR3.out _ (by rw[HQ.out]),HT3.out _,hB2.setCell uw _,HOB.out⟩
        |some b=>
         unfold Pu;go_wp2_with fail;go_roundg (EM ⟨q,size,q,some b,acc⟩)
         case measure=>exact HM.out
         case rel=>exact⟨_,v,Nat.le_refl _,HG2.out,gu,gu,hsz,akd,J,fun b' hb'=>HBH.out b' hb',by rw[HQ.out],HR3.out _ (by rw[HQ.out]),HT3.out _,hB2.setCell uw _,HOB.out⟩
theorem Li{fn:Func}{c₀:Frame}{cs:List Frame}{R:Ending->FrameMode->World->Prop}{u':FrameMode}{c:Code}{a:Act}
  (h:c.wp P (bodyPost P fn (fun e w'=>R e u' w')) a w):c.wpS P (bodyPostS P fn c₀ cs R) a ({c₀ with mode:=u'}::cs) w:=by
 refine wpS_of_wp (Code.wp_mono ?_ h);intro e a' w' hq;cases e with
 |normal=>exact⟨hq.1,u',J,hq.2⟩
 |ret=>exact⟨hq.1,u',J,hq.2⟩
 |panic ch=>exact⟨hq.1,u',J,hq.2⟩
 |outgrown=>exact⟨u',hq⟩
 |exit id=>exact hq
 |goto l=>exact hq
theorem NT{fn:Func}{c₀:Frame}{cs:List Frame}{R:Ending->FrameMode->World->Prop}{u:FrameMode}{c:Code}{a:Act}(hu:c₀.mode=u)
  (h:c.wp P (bodyPost P fn (fun e w'=>R e u w')) a w):c.wpS P (bodyPostS P fn c₀ cs R) a (c₀::cs) w:=by
 have:=Li (c₀:=c₀) (cs:=cs) h;cases c₀;simp at hu;subst hu;exact this
theorem KD{Q:Exit->Act->World->Prop}{c:Code}{t:Array Value}{d:List Deferred}(l:List Value)(e:t=l.toArray)(h:c.wp P Q ⟨l.toArray,d⟩ w):c.wp P Q ⟨t,d⟩ w:=e▸h
theorem Xa(p q r:Addr)(w:World):
  CallsD prog 254 #[.pointer (some p),.pointer (some q),.pointer (some r)] .returning w fun e u' w'=>e= .returned (.tuple #[])/\u'= .returning/\w'=w:=by
 refine callsD_of_wpS func254 J fun c₀ cs hu=>?_
 apply wpS_seq;apply wpS_region;simp[wpOpsS,go_sem,recoverD,hu,ntmps254,Exit.thenS];refine NT hu ?_;refine KD [.pointer (some p),.pointer (some q),.pointer (some r),.nilIface,undef,undef,.nilIface,undef,undef,undef,undef,undef,undef,undef,undef,undef,undef,undef,undef] aO ?_;exact rS
def adH(b0:Nat)(x:Int)(w w':World):Prop:=F w' b0 26 [.slice none 0 0]/\F w' (b0+1) 3 [.int .i64 0]/\F w' (b0+2) 142 [.int .i64 x]/\Below b0 w w'
theorem Xb(b0:Nat)(v0 v1 v2:Value)(x:Int)(w:World)(h0:F w b0 26 [v0])(U:F w (b0+1) 3 [v1])(X:F w (b0+2) 142 [v2]):
  CallsD prog 254 #[.pointer (some ⟨b0,0,none⟩),.pointer (some ⟨b0+1,0,none⟩),.pointer (some ⟨b0+2,0,none⟩)] (.panicking (Rr x)) w fun e u' w'=>
   e= .returned (.tuple #[])/\u'= .panicking [{v:=.iface 360 (.agg #[.int .i64 x]),recovered:=true}]/\adH b0 x w w':=by
 have hTa:∀w:World,(Instr.typeAssert (.iface 360 (.agg #[.int .i64 x])) 20 360 true).run prog w= .ok (.tuple #[.agg #[.int .i64 x],.bool true]) w:=fun _=>by kernel_rfl
 have c0:=h0.M 0 J;have c1:=U.M 0 J;have c2:=X.M 0 J;have f0:=h0.frozen 0;have f1:=U.frozen 0;have f2:=X.frozen 0;refine callsD_of_wpS func254 J fun c₀ cs hu=>?_
 unfold Rr at hu;apply wpS_seq;apply wpS_region;simp[wpOpsS,go_sem,recoverD,hu,ntmps254,Exit.thenS];refine Li (u':=.panicking [{v:=.iface 360 (.agg #[.int .i64 x]),recovered:=true}]) ?_;refine KD [.pointer (some ⟨b0,0,none⟩),.pointer (some ⟨b0+1,0,none⟩),.pointer (some ⟨b0+2,0,none⟩),.iface 360 (.agg #[.int .i64 x]),undef,undef,.iface 360 (.agg #[.int .i64 x]),undef,undef,undef,undef,undef,undef,undef,undef,undef,undef,undef,undef] aO ?_;clear hu;have l0:=h0.lt;have l1:=U.lt;have l2:=X.lt;go_wp2;go_region;all_goals go_end0
 all_goals
  refine⟨J,J,F.drew (F.alloc (F.y7 (F.y7 (h0.set 0 _) ap _) ap _) _),F.drew (F.alloc (F.y7 (F.set (U.y7 ap _) 0 _) ap _) _),F.drew (F.alloc (F.set (F.y7 (X.y7 ap _) ap _) 0 _) _),?_⟩;exact(((((Below.refl _ _).setCell ap _).setCell ap _).setCell ap _).alloc aA _).drew
def abH(m:List UInt8):Nat->GS->GO
 |0,_=>.err 15
 |k+1,s=>match xB m s with
  | .go s'=>abH m k s'
  | .err e=>.err e
  | .ok l n=>.ok l n
theorem Xd(m:List UInt8):∀(k:Nat) (s:GS),EM s<k->s.size<=255->Dg m s (abH m k s):=by
 intro k;induction k with
 |zero=>intro s h;omega
 |succ k ih=>
  intro s h hs;unfold abH;cases e:xB m s with
  |err x=>exact .err e
  |ok l n=>exact .ok e
  |go s'=>obtain⟨U,X⟩:=Rp e hs;exact .go e (ih s' I X)
theorem Zd{m:List UInt8}{s:GS}{o o':GO}(h:Dg m s o)(h':Dg m s o'):o=o':=by
 induction h with
 |err e=>exact(Cy h' e).symm
 |ok e=>exact(VU h' e).symm
 |go e _ ih=>exact ih (KC h' e)
def Ux(m:List UInt8)(a:Nat):GO:=abH m (a*300+300) ⟨a,1,a,none,[]⟩
theorem Im(m:List UInt8)(a:Nat):Dg m ⟨a,1,a,none,[]⟩ (Ux m a):=Xd m _ _ (by simp[EM]) ap
def Kk(m:List UInt8)(uG:Int):Bool:=decide (uG<0)||decide ((m.length:Int)<uG)
def goN:GO->List (List UInt8)
 | .ok l _=>l
 |_=>[]
def goB:GO->Int
 | .ok _ n=>n
 |_=>0
def Xe:GO->Int
 | .ok _ _=>0
 | .err e=>e
 | .go _=>0
def Ch(m:List UInt8)(uG:Int):GO:=if Kk m uG then .err 4 else Ux m uG.toNat
def Dw(o:GO)(w:World)(e:Ending)(w':World):Prop:=
 ∃v,e= .returned (.tuple #[v,.int .i64 (goB o),.int .i64 (Xe o)])/\wO w' v (goN o)/\al w w'/\(∀k,v.ownBlock=some k->w.heap.size<=k)
theorem abI(m:List UInt8)(uG:Int)(w:World)(h:Kk m uG=true):
  Calls prog 249 #[.string (bs m),.int .i64 uG] w (Dw (.err 4) w):=by
 have Z:uG<0\/(0<=uG/\(m.length:Int)<uG):=by simp[Kk]at h;omega
 clear h;rcases Z with h|⟨h0,h⟩;all_goals
  go_enter_defers func249,ntmps249;go_wp2_with fail;simp[bodyPostD,Leaves,results,Tryz.results249,go_sem];exact⟨_,J,wO.nil _,(((Below.refl _ _).alloc (Nat.le_refl _) _).alloc ap _).alloc aA _,by simp[Value.ownBlock]⟩
theorem adI(m:List UInt8)(a:Nat)(w:World)(hl:m.length<=4000000)(ha:a<=m.length)(o:GO)(ho:Dg m ⟨a,1,a,none,[]⟩ o):
  Calls prog 249 #[.string (bs m),.int .i64 a] w (Dw o w):=by
 have ha0:(0:Int)<=a:=I;go_enter_defers func249,ntmps249;go_wp2_with fail;refine(Zc _ m a (w.heap.size+1+1+1) o _ (F.wE _ _ [.string (bs m),.int .i64 a,.int .i64 1,.slice none 0 0] _ ap) (Nat.le_refl _) hl ha ho).mono ?_;have n0:∀o1 o2 o3,F ((((w.alloc (.cells #[.slice none 0 0] 26)).alloc o1).alloc o2).alloc o3) w.heap.size 26 [.slice none 0 0]:=fun o1 o2 o3=>(((F.new w _ [.slice none 0 0]).alloc _).alloc _).alloc _
 have n1:∀o2 o3,F ((((w.alloc (.cells #[.slice none 0 0] 26)).alloc (.cells #[.int .i64 0] 3)).alloc o2).alloc o3) (w.heap.size+1) 3 [.int .i64 0]:=fun o2 o3=>((F.wE _ _ [.int .i64 0] _ ap).alloc _).alloc _
 have n2:∀o3,F ((((w.alloc (.cells #[.slice none 0 0] 26)).alloc (.cells #[.int .i64 0] 3)).alloc (.cells #[.int .i64 0] 142)).alloc o3) (w.heap.size+1+1) 142 [.int .i64 0]:=fun o3=>(F.wE _ _ [.int .i64 0] _ ap).alloc _
 have hB0:∀o1 o2 o3 o4,Below w.heap.size w ((((w.alloc o1).alloc o2).alloc o3).alloc o4):=ir;cases o with
 |go s=>intro e w1 h;exact False.elim h
 |err x=>rintro e w1 ⟨rfl,hB⟩;have k0:=(n0 _ _ _).G hB I;have k1:=(n1 _ _).G hB I;have k2:=(n2 _).G hB I;have hB1:al w w1:=(hB0 _ _ _ _).trans (hB.mono I);clear n0 n1 n2 hB0 hB;go_wp2_with fail;refine leaves_cons (f:=254) (args:= #[.pointer (some ⟨w.heap.size,0,none⟩),.pointer (some ⟨w.heap.size+1,0,none⟩),.pointer (some ⟨w.heap.size+1+1,0,none⟩)]) ap aS ?_;refine(Xb w.heap.size _ _ _ x _ k0 k1 k2).mono ?_;rintro e u' w2 ⟨rfl,rfl,c0,c1,c2,hB2⟩;have v0:=c0.M 0 J;have v1:=c1.M 0 J;have v2:=c2.M 0 J;simp[Leaves,settle,results,Tryz.results249,go_sem,v0,v1,v2];exact⟨_,J,wO.nil _,hB1.trans hB2,by simp[Value.ownBlock]⟩
 |ok l n=>
  rintro e w1 ⟨rfl,v,a',z',hR,hT,hB,hob⟩;obtain⟨A,c,hv,-,-⟩:=hT.form;rw[hv]at hR hT hob;clear hv;have k0:=(n0 _ _ _).G hB I;have k1:=(n1 _ _).G hB I;have k2:=(n2 _).G hB I;have hB1:al w w1:=(hB0 _ _ _ _).trans (hB.mono I);have HOB:=Y hob;clear n0 n1 n2 hB0 hB hob;have u3:=hR.M 3 J;have v0:=k0.M 0 J;have v1:=k1.M 0 J;have v2:=k2.M 0 J;have f0:=k0.frozen 0;have f1:=k1.frozen 0;have f2:=k2.frozen 0;go_wp2_with fail;go_region;go_wp2_with fail;refine leaves_cons (f:=254) (args:= #[.pointer (some ⟨w.heap.size,0,none⟩),.pointer (some ⟨w.heap.size+1,0,none⟩),.pointer (some ⟨w.heap.size+1+1,0,none⟩)]) ap aS ?_;refine(Xa _ _ _ _).mono ?_;rintro e u' w2 ⟨rfl,rfl,rfl⟩;simp[Leaves,settle,results,Tryz.results249,go_sem,v0,v1,v2];have y7:∀{W:World} {b:Nat} (u:Value),b<w.heap.size+1+1+1->wO W (.slice A l.length c) l->wO (W.setCell ⟨b,0,none⟩ u) (.slice A l.length c) l:=fun{W} {b} u Z hT=>ownsRow_setCell_other hT (fun e=>by have:=(HOB.out b e).1;omega) _
  refine⟨_,J,y7 _ I (y7 _ I (y7 _ I (y7 _ I hT))),?_,fun k z=>by have:=(HOB.out k z).1;omega⟩;exact((((hB1.setCell ap _).setCell ap _).setCell ap _).setCell aA _).drew
theorem VX(m:List UInt8)(uG:Int)(w:World)(hl:m.length<=4000000):
  Calls prog 249 #[.string (bs m),.int .i64 uG] w (Dw (Ch m uG) w):=by
 unfold Ch;cases h:Kk m uG with
 |true=>rw[if_pos J];exact abI m uG w h
 |false=>rw[if_neg ap];have Z:0<=uG/\uG<=m.length:=lE;have:=adI m uG.toNat w hl I _ (Im m uG.toNat);rwa[Int.toNat_of_nonneg Z.1]at this
end Go.Proofs.YthnbcmlnpdabhaaGreat
