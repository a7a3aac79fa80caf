/-
  Layer 12 (packed):what a name's reading comes to,plainly;octet and label.
-/
import Derived.Test.YthnbcmlnpdabhaaGreatGAz
namespace Go.Proofs.YthnbcmlnpdabhaaGreat
open _root_.Go.Proofs.Tryz
set_option maxHeartbeats 8000000
open Go.RowKit
set_option maxRecDepth 100000
set_option linter.unusedVariables false
variable {a acZ d:Nat} {w w1:World} {v:Value} {P:Program}
structure GS where
 at':Nat
 size:Nat
 bound:Nat
 behind:Option Nat
 acc:List (List UInt8)
inductive GO where
 |go (s:GS)
 |err (e:Int)
 |ok (l:List (List UInt8)) (n:Nat)
def wV(m:List UInt8)(s:GS):GO:=
 if m.length<=s.at' then .err 1
 else if(m.getD s.at' 0).toNat=0 then .ok s.acc (s.behind.getD (s.at'+1))
 else if(m.getD s.at' 0).toNat<=63 then
  if m.length<s.at'+1+(m.getD s.at' 0).toNat then .err 1
  else if 255<s.size+((m.getD s.at' 0).toNat+1)then .err 3
  else .go {s with at':=s.at'+1+(m.getD s.at' 0).toNat,size:=s.size+((m.getD s.at' 0).toNat+1),acc:=s.acc++[(m.take (s.at'+1+(m.getD s.at' 0).toNat)).drop (s.at'+1)]}
 else if(m.getD s.at' 0).toNat<192 then .err 7
 else if m.length<=s.at'+1 then .err 1
 else if s.bound<=(m.getD s.at' 0).toNat*256+(m.getD (s.at'+1) 0).toNat-49152 then .err 9
 else .go {s with at':=(m.getD s.at' 0).toNat*256+(m.getD (s.at'+1) 0).toNat-49152,bound:=(m.getD s.at' 0).toNat*256+(m.getD (s.at'+1) 0).toNat-49152,behind:=some (s.behind.getD (s.at'+2))}
inductive Cs (m:List UInt8):GS->GO->Prop where
 |err {s e}:wV m s= .err e->Cs m s (.err e)
 |ok {s l n}:wV m s= .ok l n->Cs m s (.ok l n)
 |go {s s' o}:wV m s= .go s'->Cs m s' o->Cs m s o
def Ec(s:GS):Nat:=s.bound*300+(300-s.size)
theorem Qk{m:List UInt8}{s s':GS}(h:wV m s= .go s')(hs:s.size<=255):Ec s'<Ec s/\s'.size<=255:=by
 unfold wV at h
 repeat' split at h
 all_goals first
  |(injection h with h;subst h;simp only[Ec];constructor<;>omega)
  |exact GO.noConfusion h
theorem Cb{m:List UInt8}{s:GS}{o:GO}{e:Int}(h:Cs m s o)(he:wV m s= .err e):o= .err e:=by
 cases h<;>simp_all
theorem U3{m:List UInt8}{s:GS}{o:GO}{l n}(h:Cs m s o)(he:wV m s= .ok l n):o= .ok l n:=by
 cases h<;>simp_all
theorem JY{m:List UInt8}{s s':GS}{o:GO}(h:Cs m s o)(he:wV m s= .go s'):Cs m s' o:=by
 cases h<;>simp_all
def Eo(w:World)(g:Nat)(m:List UInt8)(a acZ:Nat)(v:Value):Prop:=Z w g 363 [.string (bs m),.int .i64 a,.int .i64 acZ,v]
def Ql(e:Int):List PanicEntry:=[{v:=.iface 360 (.agg #[.int .i64 e]),recovered:=false}]
def Ti(m:List UInt8)(g a acZ:Nat)(v:Value)(w:World)(e:Ending)(w':World):Prop:=
 e= .returned (.int .i64 ((m.getD a 0).toNat:Int))/\Eo w' g m (a+1) acZ v/\w.grownBy w' (some g)/\w'.heap.size=w.heap.size
def acn(x:Int)(g:Nat)(w:World)(e:Ending)(w':World):Prop:=e= .panicked (Ql x)/\w.grownBy w' (some g)
theorem Nf(g:Nat)(m:List UInt8)(a acZ:Nat)(v:Value)(w:World)(h:Eo w g m a acZ v)(hl:m.length<=4000000)(ha:a<m.length):
  Calls prog 260 #[.pointer (some ⟨g,0,none⟩)] w (Ti m g a acZ v w):=by
 have c0:=h.K 0 J;have c1:=h.K 1 J;have f1:=h.frozen 1;have ha':(a:Int)<m.length:=I;have hd:m.getD a 0=m[a]:=by simp[ha]
 go_enter func260,ntmps260;go_wp2_with fail;go_quiet(fail);go_wp2_with fail;go_quiet(fail);go_wp2_with fail;go_ret;refine⟨?_,?_,xQ (uq (xQ (World.grownBy.refl _ _) _) _ _) _,by simp[World.setCell]⟩
 ·rw[hd];exact yf (IntWalk.wrap64_in _ (by have:=m[a].toNat_lt;omega))
 ·exact((h.drewN _).set 1 _).drewN _
theorem Qm(g:Nat)(m:List UInt8)(a acZ:Nat)(v:Value)(w:World)(h:Eo w g m a acZ v)(hl:m.length<=4000000)(ha:m.length<=a):
  Calls prog 260 #[.pointer (some ⟨g,0,none⟩)] w (acn 1 g w):=by
 have c0:=h.K 0 J;have c1:=h.K 1 J;have ha':(m.length:Int)<=a:=I;go_enter func260,ntmps260;exact qv
def acL(m:List UInt8)(g a acZ c:Nat)(l:List (List UInt8))(lo:Nat)(w:World)(e:Ending)(w':World):Prop:=
 e= .returned (.tuple #[])/\∃v,Eo w' g m (a+c) (acZ+(c+1)) v/\wh w' v (l++[(m.take (a+c)).drop a])/\Below lo w w'/\(∀k,v.ownBlock=some k->lo<=k/\k≠g)
theorem Qo(g:Nat)(m:List UInt8)(a acZ c:Nat)(v:Value)(w:World)(h:Eo w g m a acZ v)(hl:m.length<=4000000)(ha:a<=m.length)(hc:c<=63)(hs:m.length<a+c):
  Calls prog 261 #[.pointer (some ⟨g,0,none⟩),.int .i64 c] w (acn 1 g w):=by
 have c0:=h.K 0 J;have c1:=h.K 1 J;have hs':(m.length:Int)-a<c:=I;go_enter func261,ntmps261;exact qv
def acM(m:List UInt8)(g a acZ c:Nat)(l:List (List UInt8))(lo:Nat)(w:World)(e:Ending)(w':World):Prop:=
 (acZ+(c+1)<=255/\acL m g a acZ c l lo w e w')\/(255<acZ+(c+1)/\e= .panicked (Ql 3)/\Below lo w w')
def Yk(m:List UInt8)(g a acZ c:Nat)(l:List (List UInt8))(lo:Nat)(w wx:World):Prop:=
 ∃v,Eo wx g m a acZ v/\wh wx v (l++[(m.take (a+c)).drop a])/\Below lo w wx/\(∀k,v.ownBlock=some k->lo<=k/\k≠g)
theorem acN{m:List UInt8}{g c gg cap:Nat}{l:List (List UInt8)}{lo:Nat}{W:World}{o:Obj}(U:Eo w1 g m a acZ v)(hB:Below lo w W)(tK:lo<=g)(hgl:g<W.heap.size)
  (hOB:Hid (∀k,v.ownBlock=some k->lo<=k/\k≠g))
  (adV:w1.ownsRow 0 9 1 (.slice (some ⟨gg,0,none⟩) (l.length+1) cap) (l.length+1) (l.map (fun t=>Value.string (bs t))++[.string (bs ((m.take (a+c)).drop a))]))
  (af0:(W.alloc o).drew.grownBy w1 v.ownBlock) (hat:v.ownBlock=some gg\/gg=W.heap.size+1):
  Yk m g a acZ c l lo w (w1.setCell ⟨g,3,none⟩ (.slice (some ⟨gg,0,none⟩) (l.length+1) cap)):=by
 have hne:gg≠g/\lo<=gg:=by
  rcases hat with h|h
  ·have:=hOB.out gg h;exact⟨this.2,this.1⟩
  ·have:=hB.size;omega
 refine⟨_,U.set 3 _,?_,?_,?_⟩
 ·have:=ownsRow_setCell_other adV (a:=⟨g,3,none⟩) aM (.slice (some ⟨gg,0,none⟩) (l.length+1) cap);unfold wh;simpa using this
 ·refine Below.setCell ?_ tK _;exact(hB.alloc I o).drew.grown af0 az (fun k O=>(hOB.out k O).1)
 ·intro k O;simp[Value.ownBlock]at O;omega
theorem VY(g:Nat)(m:List UInt8)(a acZ c:Nat)(v:Value)(l:List (List UInt8))(lo:Nat)(w:World)(h:Eo w g m a acZ v)(ht:wh w v l)(tK:lo<=g)(hob:∀k,v.ownBlock=some k->lo<=k/\k≠g)(hl:m.length<=4000000)(hll:l.length<=300)(hz:acZ<=255)(hc:c<=63)(hs:a+c<=m.length):
  Calls prog 261 #[.pointer (some ⟨g,0,none⟩),.int .i64 c] w (acM m g a acZ c l lo w):=by
 have c0:=h.K 0 J;have c1:=h.K 1 J;have c3:=h.K 3 J;have hs2:(a:Int)+c<=m.length:=I;go_enter func261,ntmps261;go_wp2_with fail;go_quiet(fail);go_upto_region 2 with fail;obtain⟨i0,hi0,hz0,hz1,hz2⟩:=info_parts DB;obtain⟨W,hW⟩:∃W,W=w.drewN nq:=gp;rw[<-hW];have h':Eo W g m a acZ v:=hW▸h.drewN _;have ht':wh W v l:=hW▸ht;have hB:Below lo w W:=kc;have hOB:=Y hob;clear hW h ht hob c0 c1 c3;have hgl:=h'.lt;go_cut[] (fun wx=>Yk m g a acZ c l lo w wx)
 case first=>
  have c0:=h'.K 0 J;have c1:=h'.K 1 J;have c3:=h'.K 3 J;have hw1:IntKind.i64.wrap ((a:Int)+c)=(a:Int)+c:=jc;have hn1:((a:Int)+c).toNat=a+c:=I;have hp2:(a:Int)<=(a:Int)+c:=I;have hne:some g≠v.ownBlock:=fun e=>(hOB.out g e.symm).2 J
  go_region_law(refine step_append_lies _ J (.tmp 22) (.tmp 38) _ aN 0 9 i0 _ 1 16 underlying26 hi0 hz0 hz1 hz2 J ax v l.length _ aN (World.ownsRow.alloc ht' _) ⟨W.heap.size,0,none⟩ 1 1 [.string (bs ((m.take (a+c)).drop a))] aN aN (Bf _ _ _ _ J) aO I aJ I (Nat.zero_le _) (W.heap.size+1) ap ?_;intro gg cap w1 af4 af0 hat Hh;have U:Eo w1 g m a acZ v:=(Z.alloc (Z.drew h') _).grown af0 hne;have k3:=U.K 3 J;have kf:=U.frozen 3;clear c0 c1 c3);all_goals(go_wp2_with fail;go_meet;exact acN U hB tK hgl hOB af4 af0 hat)
 case rest=>
  obtain⟨v',X,ht2,hB2,arO⟩:=hcut;clear h' ht' hB hOB;have c1:=X.K 1 J;have c2:=X.K 2 J;have f1:=X.frozen 1;have f2:=X.frozen 2;have HOB:=Y arO;clear arO;by_cases hz3:acZ+(c+1)<=255
  ·
   have awi:(acZ:Int)+((c:Int)+1)<=255:=I;go_wp2_with fail;go_end0;refine .inl ⟨hz3,J,v',?_,?_,(hB2.setCell tK _).setCell tK _,HOB.out⟩
   ·have:=(X.set 1 (.int .i64 ((a:Int)+c))).set 2 (.int .i64 ((acZ:Int)+(c+1)));unfold Eo;rw[show((a+c:Nat):Int)=(a:Int)+c by omega,show((acZ+(c+1):Nat):Int)=(acZ:Int)+(c+1)by omega];exact this
   ·
    have O:∀k,v'.ownBlock=some k->k≠g:=fun k O=>(HOB.out k O).2
    exact ownsRow_setCell_other (ownsRow_setCell_other ht2 (fun e=>O g e J) _) (fun e=>O g e J) _
  ·have awi:(255:Int)<(acZ:Int)+((c:Int)+1):=I;go_wp2_with fail;exact⟨J,.inr ⟨I,J,(hB2.setCell tK _).setCell tK _⟩⟩
def aaR(m:List UInt8)(g lo:Nat)(w:World)(o:GO)(e:Ending)(w':World):Prop:=
 match o with
 | .err x=>e= .panicked (Ql x)/\Below lo w w'
 | .ok l n=>e= .returned (.int .i64 n)/\∃v a acZ,Eo w' g m a acZ v/\wh w' v l/\Below lo w w'/\(∀k,v.ownBlock=some k->lo<=k/\k≠g)
 | .go _=>False
def OG:Option Nat->Int
 |none=> -1
 |some b=>b
def ad6(m:List UInt8)(g lo:Nat)(w:World)(o:GO)(k:Nat)(behind bound:Value)(wr:World):Prop:=
 ∃(s:GS) (v:Value),Ec s<=k/\Cs m s o/\s.at'<=m.length/\s.bound<=m.length/\s.size<=255/\s.acc.length<=s.size/\behind= .int .i64 (OG s.behind)/\(∀b,s.behind=some b->b<=m.length)/\bound= .int .i64 s.bound/\
  Eo wr g m s.at' s.size v/\wh wr v s.acc/\Below lo w wr/\(∀k,v.ownBlock=some k->lo<=k/\k≠g)
theorem KB{m:List UInt8}{s s':GS}{o:GO}(hg:Cs m s o)(h:wV m s= .go s')(hs:s.size<=255):Cs m s' o/\Ec s'<Ec s:=⟨JY hg h,(Qk h hs).1⟩
section
variable {m:List UInt8} {at' size bound c:Nat} {behind:Option Nat} {acc:List (List UInt8)}
theorem OH(U:¬m.length<=at')(hc:0=(m.getD at' 0).toNat):wV m ⟨at',size,bound,behind,acc⟩= .ok acc (behind.getD (at'+1)):=by
 unfold wV;simp only;rw[if_neg U,if_pos hc.symm]
theorem Qp(U:¬m.length<=at')(hc:c=(m.getD at' 0).toNat)(h0:c≠0)(h63:c<=63)(hs:m.length<at'+1+c):wV m ⟨at',size,bound,behind,acc⟩= .err 1:=by
 unfold wV;simp only;rw[<-hc,if_neg U,if_neg h0,if_pos h63,if_pos hs]
theorem U4(U:¬m.length<=at')(hc:c=(m.getD at' 0).toNat)(h0:c≠0)(h63:c<=63)(hs:¬m.length<at'+1+c)(hz:255<size+(c+1)):wV m ⟨at',size,bound,behind,acc⟩= .err 3:=by
 unfold wV;simp only;rw[<-hc,if_neg U,if_neg h0,if_pos h63,if_neg hs,if_pos hz]
theorem OI(U:¬m.length<=at')(hc:c=(m.getD at' 0).toNat)(h0:c≠0)(h63:c<=63)(hs:¬m.length<at'+1+c)(hz:¬255<size+(c+1)):
  wV m ⟨at',size,bound,behind,acc⟩= .go ⟨at'+1+c,size+(c+1),bound,behind,acc++[(m.take (at'+1+c)).drop (at'+1)]⟩:=by
 unfold wV;simp only;rw[<-hc,if_neg U,if_neg h0,if_pos h63,if_neg hs,if_neg hz]
theorem Yl(U:¬m.length<=at')(hc:c=(m.getD at' 0).toNat)(h63:¬c<=63)(agO:c<192):wV m ⟨at',size,bound,behind,acc⟩= .err 7:=by
 unfold wV;simp only;rw[<-hc,if_neg U,if_neg I,if_neg h63,if_pos agO]
theorem Ng(U:¬m.length<=at')(hc:c=(m.getD at' 0).toNat)(agO:¬c<192)(hs:m.length<=at'+1):wV m ⟨at',size,bound,behind,acc⟩= .err 1:=by
 unfold wV;simp only;rw[<-hc,if_neg U,if_neg I,if_neg I,if_neg agO,if_pos hs]
theorem U5(U:¬m.length<=at')(hc:c=(m.getD at' 0).toNat)(agO:¬c<192)(hs:¬m.length<=at'+1)(hd:d=(m.getD (at'+1) 0).toNat)(F:bound<=c*256+d-49152):wV m ⟨at',size,bound,behind,acc⟩= .err 9:=by
 unfold wV;simp only;rw[<-hc,<-hd,if_neg U,if_neg I,if_neg I,if_neg agO,if_neg hs,if_pos F]
theorem OJ(U:¬m.length<=at')(hc:c=(m.getD at' 0).toNat)(agO:¬c<192)(hs:¬m.length<=at'+1)(hd:d=(m.getD (at'+1) 0).toNat)(F:¬bound<=c*256+d-49152):
  wV m ⟨at',size,bound,behind,acc⟩= .go ⟨c*256+d-49152,size,c*256+d-49152,some (behind.getD (at'+2)),acc⟩:=by
 unfold wV;simp only;rw[<-hc,<-hd,if_neg U,if_neg I,if_neg I,if_neg agO,if_neg hs,if_neg F]
end
theorem Eo.lt{g:Nat}{m:List UInt8}(h:Eo w g m a acZ v):g<w.heap.size:=Z.lt h
theorem KC{lo g:Nat}{wr:World}(hB:Below lo w wr)(hg:wr.grownBy w1 (some g))(Hh:g<wr.heap.size)(tK:lo<=g):Below lo w w1:=hB.grown hg I aP
theorem Ym(g:Nat)(m:List UInt8)(a:Nat)(lo:Nat)(o:GO)(w:World)(h:Eo w g m a 1 (.slice none 0 0))(tK:lo<=g)(hl:m.length<=4000000)(ha:a<=m.length)(ho:Cs m ⟨a,1,a,none,[]⟩ o):
  Calls prog 255 #[.pointer (some ⟨g,0,none⟩)] w (aaR m g lo w o):=by
 have c1:=h.K 1 J;go_enter func255,ntmps255;go_wp2_with fail;go_loopg [3,4] (Ec ⟨a,1,a,none,[]⟩) (fun k behind bound wr=>ad6 m g lo w o k behind bound wr)
 case atStart=>exact⟨⟨a,1,a,none,[]⟩,.slice none 0 0,Nat.le_refl _,ho,ha,ha,ap,ap,J,ap,J,h,wh.nil _,Below.refl _ _,by simp[Value.ownBlock]⟩
 case round=>
  clear c1 h ho;obtain⟨⟨at',size,bound,behind,acc⟩,v,O,hG,hat,hbd,hsz,ajo,rfl,hbh,rfl,hR,hT,hB,hob⟩:=hrel;simp only at O hG hat hbd hsz ajo hbh hR hT;have HG:=Y hG;have HOB:=Y hob;have HBH:=Y hbh;clear hG hob hbh;by_cases U:m.length<=at'
  ·have e1:o= .err 1:=nW;subst e1;go_wp2_with fail;refine(Qm g m at' size v _ hR hl U).mono ?_;rintro e w1 ⟨rfl,hg⟩;go_wp2_with fail;exact⟨J,J,hB.grown hg aQ aP⟩
  ·
   have C:=Nf g m at' size v wr hR hl I;obtain⟨c,hc⟩:∃c,c=(m.getD at' 0).toNat:=gp;have asn:c<256:=mV;unfold Ti at C;rw[<-hc]at C;have HC:=Y hc;clear hc;go_wp2_with fail;refine C.mono ?_;rintro e w1 ⟨rfl,hR1,hg1,hs1⟩;have hB1:Below lo w w1:=hB.grown hg1 aQ aP;have hT1:wh w1 v acc:=hT.grown hg1 hR ax;clear C hR hT hB hg1 hs1;clear wr;have hg1:=hR1.lt;by_cases h0:c=0
   ·
    subst h0;have r1:=hR1.K 1 J;cases behind with
    |none=>have e1:o= .ok acc (at'+1):=jf;subst e1;unfold OG;go_wp2_with fail;go_ret;exact⟨yf (by go_num),v,_,_,hR1,hT1,hB1,HOB.out⟩
    |some b=>have e1:o= .ok acc b:=jf;subst e1;unfold OG;go_wp2_with fail;go_ret;exact⟨J,v,_,_,hR1,hT1,hB1,HOB.out⟩
   ·
    have h0':((c:Int)==0)=false:=az;by_cases h63:c<=63
    ·
     have apd:(c:Int)<=63:=I;by_cases hs:m.length<at'+1+c
     ·have e1:o= .err 1:=mG;subst e1;clear h0;go_wp2_with fail;refine(Qo g m (at'+1) size c v _ hR1 hl I h63 I).mono ?_;exact sf
     ·
      have C:=VY g m (at'+1) size c v acc lo w1 hR1 hT1 tK HOB.out hl I hsz h63 I;by_cases hz:255<size+(c+1)
      ·
       have e1:o= .err 3:=mn;subst e1;clear h0;go_wp2_with fail;refine C.mono ?_;rintro e w2 (⟨h,_⟩|⟨_,rfl,F⟩)
       ·omega
       go_wp2_with fail;exact⟨J,J,hB1.trans F⟩
      ·
       obtain⟨G2,M2⟩:=KB HG.out (OI U HC.out h0 h63 hs hz) hsz;have HG2:=Y G2;have hm2:=Nat.lt_of_lt_of_le M2 O;clear h0 G2 M2;go_wp2_with fail;refine C.mono ?_;rintro e w2 (⟨_,rfl,v2,hR2,hT2,hB2,ho2⟩|⟨h,_⟩)
       ·
        go_wp2_with fail;go_roundg (Ec ⟨at'+1+c,size+(c+1),bound,behind,acc++[(m.take (at'+1+c)).drop (at'+1)]⟩)
        case measure=>exact hm2
        case rel=>exact⟨_,v2,Nat.le_refl _,HG2.out,az,hbd,az,az,J,HBH.out,J,hR2,hT2,hB1.trans hB2,ho2⟩
       ·omega
    ·
     have apd:(63:Int)<c:=I;by_cases agO:c<192
     ·have alm:(c:Int)<192:=I;have e1:o= .err 7:=m6;subst e1;clear h0;go_wp2_with fail;exact⟨J,J,hB1⟩
     ·
      have alm:(192:Int)<=c:=I;by_cases hps:m.length<=at'+1
      ·have e1:o= .err 1:=mH;subst e1;clear h0;go_wp2_with fail;refine(Qm g m (at'+1) size v _ hR1 hl hps).mono ?_;exact sf
      ·
       have C:=Nf g m (at'+1) size v w1 hR1 hl I;obtain⟨d,hd⟩:∃d,d=(m.getD (at'+1) 0).toNat:=gp;have ash:d<256:=mU;unfold Ti at C;rw[<-hd]at C;have HD:=Y hd;clear hd h0;go_wp2_with fail;refine C.mono ?_;rintro e w2 ⟨rfl,hR2,hg2,hs2⟩;have hB2:Below lo w w2:=KC hB1 hg2 hg1 tK;have hT2:wh w2 v acc:=hT1.grown hg2 hR1 ax;clear C hR1 hT1 hB1 hg2 hs2 hg1;clear w1;have r1:=hR2.K 1 J;have fr1:=hR2.frozen 1;by_cases hpb:bound<=c*256+d-49152
       ·have e1:o= .err 9:=lI;subst e1;have aot:(bound:Int)<=(c:Int)*256+d-49152:=I;go_wp2_with fail;exact⟨J,J,hB2⟩
       ·
        obtain⟨G2,M2⟩:=KB HG.out (OJ U HC.out agO hps HD.out hpb) hsz;have HG2:=Y G2;have HM:=Y (Nat.lt_of_lt_of_le M2 O);have aot:(c:Int)*256+d-49152<bound:=I;clear G2 M2;obtain⟨q,hq⟩:∃q,q=c*256+d-49152:=gp;rw[<-hq]at HG2 HM;have hqi:(c:Int)*256+d-49152=q:=I;have HQ:=Y hqi;have hqb:q<bound:=I;have aor:at'+2<=m.length:=I;clear hq hqi hpb U hps O;have hR3:∀u,u=Value.int .i64 (q:Int)->Eo (w2.setCell ⟨g,1,none⟩ u) g m q size v:=fun u hu=>by subst hu;exact hR2.set 1 _
        have hT3:∀u,wh (w2.setCell ⟨g,1,none⟩ u) v acc:=fun u=>ownsRow_setCell_other hT2 (fun e=>(HOB.out g e).2 J) _
        have HR3:=Y hR3;have HT3:=Y hT3;clear hR3 hT3;cases behind with
        |none=>
         unfold OG;go_wp2_with fail;go_roundg (Ec ⟨q,size,q,some (at'+2),acc⟩)
         case measure=>exact HM.out
         case rel=>exact⟨_,v,Nat.le_refl _,HG2.out,fV,fV,hsz,ajo,congrArg (Value.int .i64) (show(at':Int)+1+1=((at'+2:Nat):Int)by omega),(fun b F=>by injection F with F;subst F;exact aor),by rw[HQ.out],HR3.out _ (by rw[HQ.out]),HT3.out _,hB2.setCell tK _,HOB.out⟩
        |some b=>
         unfold OG;go_wp2_with fail;go_roundg (Ec ⟨q,size,q,some b,acc⟩)
         case measure=>exact HM.out
         case rel=>exact⟨_,v,Nat.le_refl _,HG2.out,fV,fV,hsz,ajo,J,fun b' hb'=>HBH.out b' hb',by rw[HQ.out],HR3.out _ (by rw[HQ.out]),HT3.out _,hB2.setCell tK _,HOB.out⟩
theorem KD{fn:Func}{c₀:Frame}{cs:List Frame}{R:Ending->FrameMode->World->Prop}{u':FrameMode}{c:Code}{a:Act}
  (h:c.wp P (bodyPost P fn (fun e w'=>R e u' w')) a w):c.wpS P (bodyPostS P fn c₀ cs R) a ({c₀ with mode:=u'}::cs) w:=by
 refine wpS_of_wp (Code.wp_mono ?_ h);intro e a' w' hq;cases e with
 |normal=>exact⟨hq.1,u',J,hq.2⟩
 |ret=>exact⟨hq.1,u',J,hq.2⟩
 |panic ch=>exact⟨hq.1,u',J,hq.2⟩
 |outgrown=>exact⟨u',hq⟩
 |exit id=>exact hq
 |goto l=>exact hq
theorem Nh{fn:Func}{c₀:Frame}{cs:List Frame}{R:Ending->FrameMode->World->Prop}{u:FrameMode}{c:Code}{a:Act}(hu:c₀.mode=u)
  (h:c.wp P (bodyPost P fn (fun e w'=>R e u w')) a w):c.wpS P (bodyPostS P fn c₀ cs R) a (c₀::cs) w:=by
 have:=KD (c₀:=c₀) (cs:=cs) h;cases c₀;simp at hu;subst hu;exact this
theorem JZ{Q:Exit->Act->World->Prop}{c:Code}{t:Array Value}{d:List Deferred}(l:List Value)(e:t=l.toArray)(h:c.wp P Q ⟨l.toArray,d⟩ w):c.wp P Q ⟨t,d⟩ w:=e▸h
theorem VZ(p q r:Addr)(w:World):
  CallsD prog 254 #[.pointer (some p),.pointer (some q),.pointer (some r)] .returning w fun e u' w'=>e= .returned (.tuple #[])/\u'= .returning/\w'=w:=by
 refine callsD_of_wpS func254 J fun c₀ cs hu=>?_
 apply wpS_seq;apply wpS_region;simp[wpOpsS,go_sem,recoverD,hu,ntmps254,Exit.thenS];refine Nh hu ?_;refine JZ [.pointer (some p),.pointer (some q),.pointer (some r),.nilIface,undef,undef,.nilIface,undef,undef,undef,undef,undef,undef,undef,undef,undef,undef,undef,undef] aN ?_;exact rk
def acO(b0:Nat)(x:Int)(w w':World):Prop:=Z w' b0 26 [.slice none 0 0]/\Z w' (b0+1) 3 [.int .i64 0]/\Z w' (b0+2) 142 [.int .i64 x]/\Below b0 w w'
theorem V0(b0:Nat)(v0 v1 v2:Value)(x:Int)(w:World)(h0:Z w b0 26 [v0])(U:Z w (b0+1) 3 [v1])(X:Z w (b0+2) 142 [v2]):
  CallsD prog 254 #[.pointer (some ⟨b0,0,none⟩),.pointer (some ⟨b0+1,0,none⟩),.pointer (some ⟨b0+2,0,none⟩)] (.panicking (Ql x)) w fun e u' w'=>
   e= .returned (.tuple #[])/\u'= .panicking [{v:=.iface 360 (.agg #[.int .i64 x]),recovered:=true}]/\acO b0 x w w':=by
 have hTa:∀w:World,(Instr.typeAssert (.iface 360 (.agg #[.int .i64 x])) 20 360 true).run prog w= .ok (.tuple #[.agg #[.int .i64 x],.bool true]) w:=fun _=>by kernel_rfl
 have c0:=h0.K 0 J;have c1:=U.K 0 J;have c2:=X.K 0 J;have f0:=h0.frozen 0;have f1:=U.frozen 0;have f2:=X.frozen 0;refine callsD_of_wpS func254 J fun c₀ cs hu=>?_
 unfold Ql at hu;apply wpS_seq;apply wpS_region;simp[wpOpsS,go_sem,recoverD,hu,ntmps254,Exit.thenS];refine KD (u':=.panicking [{v:=.iface 360 (.agg #[.int .i64 x]),recovered:=true}]) ?_;refine JZ [.pointer (some ⟨b0,0,none⟩),.pointer (some ⟨b0+1,0,none⟩),.pointer (some ⟨b0+2,0,none⟩),.iface 360 (.agg #[.int .i64 x]),undef,undef,.iface 360 (.agg #[.int .i64 x]),undef,undef,undef,undef,undef,undef,undef,undef,undef,undef,undef,undef] aN ?_;clear hu;have l0:=h0.lt;have l1:=U.lt;have l2:=X.lt;go_wp2;go_region;all_goals go_end0
 all_goals
  refine⟨J,J,Z.drew (Z.alloc (Z.yG (Z.yG (h0.set 0 _) ap _) ap _) _),Z.drew (Z.alloc (Z.yG (Z.set (U.yG ap _) 0 _) ap _) _),Z.drew (Z.alloc (Z.set (Z.yG (X.yG ap _) ap _) 0 _) _),?_⟩;exact(((((Below.refl _ _).setCell ap _).setCell ap _).setCell ap _).alloc az _).drew
def aaS(m:List UInt8):Nat->GS->GO
 |0,_=>.err 15
 |k+1,s=>match wV m s with
  | .go s'=>aaS m k s'
  | .err e=>.err e
  | .ok l n=>.ok l n
theorem V4(m:List UInt8):∀(k:Nat) (s:GS),Ec s<k->s.size<=255->Cs m s (aaS m k s):=by
 intro k;induction k with
 |zero=>intro s h;omega
 |succ k ih=>
  intro s h hs;unfold aaS;cases e:wV m s with
  |err x=>exact .err e
  |ok l n=>exact .ok e
  |go s'=>obtain⟨U,X⟩:=Qk e hs;exact .go e (ih s' I X)
theorem Yn{m:List UInt8}{s:GS}{o o':GO}(h:Cs m s o)(h':Cs m s o'):o=o':=by
 induction h with
 |err e=>exact(Cb h' e).symm
 |ok e=>exact(U3 h' e).symm
 |go e _ ih=>exact ih (JY h' e)
def Tj(m:List UInt8)(a:Nat):GO:=aaS m (a*300+300) ⟨a,1,a,none,[]⟩
theorem Hi(m:List UInt8)(a:Nat):Cs m ⟨a,1,a,none,[]⟩ (Tj m a):=V4 m _ _ (by simp[Ec]) ap
def JG(m:List UInt8)(ud:Int):Bool:=decide (ud<0)||decide ((m.length:Int)<ud)
def goN:GO->List (List UInt8)
 | .ok l _=>l
 |_=>[]
def goB:GO->Int
 | .ok _ n=>n
 |_=>0
def V5:GO->Int
 | .ok _ _=>0
 | .err e=>e
 | .go _=>0
def Bg(m:List UInt8)(ud:Int):GO:=if JG m ud then .err 4 else Tj m ud.toNat
def CP(o:GO)(w:World)(e:Ending)(w':World):Prop:=
 ∃v,e= .returned (.tuple #[v,.int .i64 (goB o),.int .i64 (V5 o)])/\wh w' v (goN o)/\al w w'/\(∀k,v.ownBlock=some k->w.heap.size<=k)
theorem aaT(m:List UInt8)(ud:Int)(w:World)(h:JG m ud=true):
  Calls prog 249 #[.string (bs m),.int .i64 ud] w (CP (.err 4) w):=by
 have F:ud<0\/(0<=ud/\(m.length:Int)<ud):=by simp[JG]at h;omega
 clear h;rcases F with h|⟨h0,h⟩;all_goals
  go_enter_defers func249,ntmps249;go_wp2_with fail;simp[bodyPostD,Leaves,results,Tryz.results249,go_sem];exact⟨_,J,wh.nil _,(((Below.refl _ _).alloc (Nat.le_refl _) _).alloc ap _).alloc az _,by simp[Value.ownBlock]⟩
theorem acP(m:List UInt8)(a:Nat)(w:World)(hl:m.length<=4000000)(ha:a<=m.length)(o:GO)(ho:Cs m ⟨a,1,a,none,[]⟩ o):
  Calls prog 249 #[.string (bs m),.int .i64 a] w (CP o w):=by
 have ha0:(0:Int)<=a:=I;go_enter_defers func249,ntmps249;go_wp2_with fail;refine(Ym _ m a (w.heap.size+1+1+1) o _ (Z.vP _ _ [.string (bs m),.int .i64 a,.int .i64 1,.slice none 0 0] _ ap) (Nat.le_refl _) hl ha ho).mono ?_;have n0:∀o1 o2 o3,Z ((((w.alloc (.cells #[.slice none 0 0] 26)).alloc o1).alloc o2).alloc o3) w.heap.size 26 [.slice none 0 0]:=fun o1 o2 o3=>(((Z.new w _ [.slice none 0 0]).alloc _).alloc _).alloc _
 have n1:∀o2 o3,Z ((((w.alloc (.cells #[.slice none 0 0] 26)).alloc (.cells #[.int .i64 0] 3)).alloc o2).alloc o3) (w.heap.size+1) 3 [.int .i64 0]:=fun o2 o3=>((Z.vP _ _ [.int .i64 0] _ ap).alloc _).alloc _
 have n2:∀o3,Z ((((w.alloc (.cells #[.slice none 0 0] 26)).alloc (.cells #[.int .i64 0] 3)).alloc (.cells #[.int .i64 0] 142)).alloc o3) (w.heap.size+1+1) 142 [.int .i64 0]:=fun o3=>(Z.vP _ _ [.int .i64 0] _ ap).alloc _
 have hB0:∀o1 o2 o3 o4,Below w.heap.size w ((((w.alloc o1).alloc o2).alloc o3).alloc o4):=hU;cases o with
 |go s=>intro e w1 h;exact False.elim h
 |err x=>rintro e w1 ⟨rfl,hB⟩;have k0:=(n0 _ _ _).G hB I;have k1:=(n1 _ _).G hB I;have k2:=(n2 _).G hB I;have hB1:al w w1:=(hB0 _ _ _ _).trans (hB.mono I);clear n0 n1 n2 hB0 hB;go_wp2_with fail;refine leaves_cons (f:=254) (args:= #[.pointer (some ⟨w.heap.size,0,none⟩),.pointer (some ⟨w.heap.size+1,0,none⟩),.pointer (some ⟨w.heap.size+1+1,0,none⟩)]) ap aR ?_;refine(V0 w.heap.size _ _ _ x _ k0 k1 k2).mono ?_;rintro e u' w2 ⟨rfl,rfl,c0,c1,c2,hB2⟩;have v0:=c0.K 0 J;have v1:=c1.K 0 J;have v2:=c2.K 0 J;simp[Leaves,settle,results,Tryz.results249,go_sem,v0,v1,v2];exact⟨_,J,wh.nil _,hB1.trans hB2,by simp[Value.ownBlock]⟩
 |ok l n=>
  rintro e w1 ⟨rfl,v,a',z',hR,hT,hB,hob⟩;obtain⟨A,c,hv,-,-⟩:=hT.form;rw[hv]at hR hT hob;clear hv;have k0:=(n0 _ _ _).G hB I;have k1:=(n1 _ _).G hB I;have k2:=(n2 _).G hB I;have hB1:al w w1:=(hB0 _ _ _ _).trans (hB.mono I);have HOB:=Y hob;clear n0 n1 n2 hB0 hB hob;have u3:=hR.K 3 J;have v0:=k0.K 0 J;have v1:=k1.K 0 J;have v2:=k2.K 0 J;have f0:=k0.frozen 0;have f1:=k1.frozen 0;have f2:=k2.frozen 0;go_wp2_with fail;go_region;go_wp2_with fail;refine leaves_cons (f:=254) (args:= #[.pointer (some ⟨w.heap.size,0,none⟩),.pointer (some ⟨w.heap.size+1,0,none⟩),.pointer (some ⟨w.heap.size+1+1,0,none⟩)]) ap aR ?_;refine(VZ _ _ _ _).mono ?_;rintro e u' w2 ⟨rfl,rfl,rfl⟩;simp[Leaves,settle,results,Tryz.results249,go_sem,v0,v1,v2];have yG:∀{W:World} {b:Nat} (u:Value),b<w.heap.size+1+1+1->wh W (.slice A l.length c) l->wh (W.setCell ⟨b,0,none⟩ u) (.slice A l.length c) l:=fun{W} {b} u F hT=>ownsRow_setCell_other hT (fun e=>by have:=(HOB.out b e).1;omega) _
  refine⟨_,J,yG _ I (yG _ I (yG _ I (yG _ I hT))),?_,fun k O=>by have:=(HOB.out k O).1;omega⟩;exact((((hB1.setCell ap _).setCell ap _).setCell ap _).setCell az _).drew
theorem U6(m:List UInt8)(ud:Int)(w:World)(hl:m.length<=4000000):
  Calls prog 249 #[.string (bs m),.int .i64 ud] w (CP (Bg m ud) w):=by
 unfold Bg;cases h:JG m ud with
 |true=>rw[if_pos J];exact aaT m ud w h
 |false=>rw[if_neg ap];have F:0<=ud/\ud<=m.length:=kW;have:=acP m ud.toNat w hl I _ (Hi m ud.toNat);rwa[Int.toNat_of_nonneg F.1]at this
end Go.Proofs.YthnbcmlnpdabhaaGreat
