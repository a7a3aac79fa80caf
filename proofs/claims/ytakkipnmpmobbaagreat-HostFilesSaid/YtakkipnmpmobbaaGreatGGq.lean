/-
  Layer 12 (packed):what a name's reading comes to,plainly;octet and label.
-/
import Derived.Test.YtakkipnmpmobbaaGreatGAq
namespace Go.Proofs.YtakkipnmpmobbaaGreat
open _root_.Go.Proofs.Tryz
set_option maxHeartbeats 8000000
open Go.RowKit
set_option maxRecDepth 100000
set_option linter.unusedVariables false
variable {a z d:Nat} {w B:World} {v:Value} {P:Program}
structure GS where
 at':Nat
 size:Nat
 bound:Nat
 behind:Option Nat
 acc:List (List UInt8)
inductive GO where
 |go (s:GS)
 |err (e:Int)
 |ok (l:List (List UInt8)) (n:Nat)
def um(m:List UInt8)(s:GS):GO:=
 if m.length<=s.at' then .err 1
 else if(m.getD s.at' 0).toNat=0 then .ok s.acc (s.behind.getD (s.at'+1))
 else if(m.getD s.at' 0).toNat<=63 then
  if m.length<s.at'+1+(m.getD s.at' 0).toNat then .err 1
  else if 255<s.size+((m.getD s.at' 0).toNat+1)then .err 3
  else .go {s with at':=s.at'+1+(m.getD s.at' 0).toNat,size:=s.size+((m.getD s.at' 0).toNat+1),acc:=s.acc++[(m.take (s.at'+1+(m.getD s.at' 0).toNat)).drop (s.at'+1)]}
 else if(m.getD s.at' 0).toNat<192 then .err 7
 else if m.length<=s.at'+1 then .err 1
 else if s.bound<=(m.getD s.at' 0).toNat*256+(m.getD (s.at'+1) 0).toNat-49152 then .err 9
 else .go {s with at':=(m.getD s.at' 0).toNat*256+(m.getD (s.at'+1) 0).toNat-49152,bound:=(m.getD s.at' 0).toNat*256+(m.getD (s.at'+1) 0).toNat-49152,behind:=some (s.behind.getD (s.at'+2))}
inductive zY (m:List UInt8):GS->GO->Prop where
 |err {s e}:um m s= .err e->zY m s (.err e)
 |ok {s l n}:um m s= .ok l n->zY m s (.ok l n)
 |go {s s' o}:um m s= .go s'->zY m s' o->zY m s o
def BQ(s:GS):Nat:=s.bound*300+(300-s.size)
theorem PB{m:List UInt8}{s s':GS}(h:um m s= .go s')(hs:s.size<=255):BQ s'<BQ s/\s'.size<=255:=by
 unfold um at h
 repeat' split at h
 all_goals first
  |(injection h with h;subst h;simp only[BQ];constructor<;>omega)
  |exact GO.noConfusion h
theorem zf{m:List UInt8}{s:GS}{o:GO}{e:Int}(h:zY m s o)(he:um m s= .err e):o= .err e:=by
 cases h<;>simp_all
theorem Va{m:List UInt8}{s:GS}{o:GO}{l n}(h:zY m s o)(he:um m s= .ok l n):o= .ok l n:=by
 cases h<;>simp_all
theorem Vb{m:List UInt8}{s s':GS}{o:GO}(h:zY m s o)(he:um m s= .go s'):zY m s' o:=by
 cases h<;>simp_all
def Cn(w:World)(g:Nat)(m:List UInt8)(a z:Nat)(v:Value):Prop:=N w g 296 [.string (bs m),.int .i64 a,.int .i64 z,v]
def PD(e:Int):List PanicEntry:=[{v:=.iface 293 (.agg #[.int .i64 e]),recovered:=false}]
def Tg(m:List UInt8)(g a z:Nat)(v:Value)(w:World)(e:Ending)(w':World):Prop:=
 e= .returned (.int .i64 ((m.getD a 0).toNat:Int))/\Cn w' g m (a+1) z v/\w.grownBy w' (some g)/\w'.heap.size=w.heap.size
def ad0(x:Int)(g:Nat)(w:World)(e:Ending)(w':World):Prop:=e= .panicked (PD x)/\w.grownBy w' (some g)
theorem K9(g:Nat)(m:List UInt8)(a z:Nat)(v:Value)(w:World)(h:Cn w g m a z v)(E:m.length<=4000000)(ha:a<m.length):
  Calls prog 193 #[.pointer (some ⟨g,0,none⟩)] w (Tg m g a z v w):=by
 have c0:=h.rD 0 I;have c1:=h.rD 1 I;have f1:=h.frozen 1;have ha':(a:Int)<m.length:=Y;have hd:m.getD a 0=m[a]:=by simp[ha]
 go_enter func193,ntmps193;go_wp2_with fail;go_quiet(fail);go_wp2_with fail;go_quiet(fail);go_wp2_with fail;go_ret;refine⟨?_,?_,yv (sd (yv (World.grownBy.refl _ _) _) _ _) _,by simp[World.setCell]⟩
 ·rw[hd];exact wv (IntWalk.wrap64_in _ (by have:=m[a].toNat_lt;omega))
 ·exact((h.drewN _).set 1 _).drewN _
theorem PJ(g:Nat)(m:List UInt8)(a z:Nat)(v:Value)(w:World)(h:Cn w g m a z v)(E:m.length<=4000000)(ha:m.length<=a):
  Calls prog 193 #[.pointer (some ⟨g,0,none⟩)] w (ad0 1 g w):=by
 have c0:=h.rD 0 I;have c1:=h.rD 1 I;have ha':(m.length:Int)<=a:=Y;go_enter func193,ntmps193;exact ou
def aet(m:List UInt8)(g a z c:Nat)(l:List (List UInt8))(lo:Nat)(w:World)(e:Ending)(w':World):Prop:=
 e= .returned (.tuple #[])/\∃v,Cn w' g m (a+c) (z+(c+1)) v/\tw w' v (l++[(m.take (a+c)).drop a])/\Below lo w w'/\(∀k,v.ownBlock=some k->lo<=k/\k≠g)
theorem PM(g:Nat)(m:List UInt8)(a z c:Nat)(v:Value)(w:World)(h:Cn w g m a z v)(E:m.length<=4000000)(ha:a<=m.length)(hc:c<=63)(hs:m.length<a+c):
  Calls prog 194 #[.pointer (some ⟨g,0,none⟩),.int .i64 c] w (ad0 1 g w):=by
 have c0:=h.rD 0 I;have c1:=h.rD 1 I;have hs':(m.length:Int)-a<c:=Y;go_enter func194,ntmps194;exact ou
def aeu(m:List UInt8)(g a z c:Nat)(l:List (List UInt8))(lo:Nat)(w:World)(e:Ending)(w':World):Prop:=
 (z+(c+1)<=255/\aet m g a z c l lo w e w')\/(255<z+(c+1)/\e= .panicked (PD 3)/\Below lo w w')
def YS(m:List UInt8)(g a z c:Nat)(l:List (List UInt8))(lo:Nat)(w wx:World):Prop:=
 ∃v,Cn wx g m a z v/\tw wx v (l++[(m.take (a+c)).drop a])/\Below lo w wx/\(∀k,v.ownBlock=some k->lo<=k/\k≠g)
theorem aev{m:List UInt8}{g c gg cap:Nat}{l:List (List UInt8)}{lo:Nat}{W:World}{o:Obj}(U:Cn B g m a z v)(hB:Below lo w W)(rH:lo<=g)(hgl:g<W.heap.size)
  (hOB:Hid (∀k,v.ownBlock=some k->lo<=k/\k≠g))
  (ad1:B.ownsRow 0 9 1 (.slice (some ⟨gg,0,none⟩) (l.length+1) cap) (l.length+1) (l.map (fun t=>Value.string (bs t))++[.string (bs ((m.take (a+c)).drop a))]))
  (alQ:(W.alloc o).drew.grownBy B v.ownBlock) (hat:v.ownBlock=some gg\/gg=W.heap.size+1):
  YS m g a z c l lo w (B.setCell ⟨g,3,none⟩ (.slice (some ⟨gg,0,none⟩) (l.length+1) cap)):=by
 have hl:gg≠g/\lo<=gg:=by
  rcases hat with h|h
  ·have:=hOB.out gg h;exact⟨this.2,this.1⟩
  ·have:=hB.size;omega
 refine⟨_,U.set 3 _,?_,?_,?_⟩
 ·have:=ownsRow_setCell_other ad1 (a:=⟨g,3,none⟩) (by simp[Value.ownBlock];omega) (.slice (some ⟨gg,0,none⟩) (l.length+1) cap);unfold tw;simpa using this
 ·refine Below.setCell ?_ rH _;exact(hB.alloc Y o).drew.grown alQ aB (fun k O=>(hOB.out k O).1)
 ·intro k O;simp[Value.ownBlock]at O;omega
theorem Wm(g:Nat)(m:List UInt8)(a z c:Nat)(v:Value)(l:List (List UInt8))(lo:Nat)(w:World)(h:Cn w g m a z v)(ht:tw w v l)(rH:lo<=g)(hob:∀k,v.ownBlock=some k->lo<=k/\k≠g)(E:m.length<=4000000)(hll:l.length<=300)(hz:z<=255)(hc:c<=63)(hs:a+c<=m.length):
  Calls prog 194 #[.pointer (some ⟨g,0,none⟩),.int .i64 c] w (aeu m g a z c l lo w):=by
 have c0:=h.rD 0 I;have c1:=h.rD 1 I;have c3:=h.rD 3 I;have hs':(c:Int)<=(m.length:Int)-a:=Y;have hs2:(a:Int)+c<=m.length:=Y;go_enter func194,ntmps194;go_wp2_with fail;go_quiet(fail);go_upto_region 2 with fail;obtain⟨i0,hi0,hz0,hz1,hz2⟩:=info_parts xK;obtain⟨W,hW⟩:∃W,W=w.drewN nq:=gh;rw[<-hW];have h':Cn W g m a z v:=hW▸h.drewN _;have ht':tw W v l:=hW▸ht;have hB:Below lo w W:=gV;have hOB:=J hob;clear hW h ht hob c0 c1 c3;have hgl:=h'.lt;go_cut[] (fun wx=>YS m g a z c l lo w wx)
 case first=>
  have c0:=h'.rD 0 I;have c1:=h'.rD 1 I;have c3:=h'.rD 3 I;have f3:=h'.frozen 3;have hw1:IntKind.i64.wrap ((a:Int)+c)=(a:Int)+c:=kt;have hn1:((a:Int)+c).toNat=a+c:=Y;have hp1:(0:Int)<=(a:Int)+c:=Y;have hp2:(a:Int)<=(a:Int)+c:=Y;have hl:some g≠v.ownBlock:=fun e=>(hOB.out g e.symm).2 I
  go_region_law(refine step_append_lies _ I (.tmp 22) (.tmp 38) _ aN 0 9 i0 _ 1 16 underlying24 hi0 hz0 hz1 hz2 I K v l.length _ aN (World.ownsRow.alloc ht' _) ⟨W.heap.size,0,none⟩ 1 1 [.string (bs ((m.take (a+c)).drop a))] aN aN (vJ _ _ _ _ I) aO Y aL Y (Nat.zero_le _) (W.heap.size+1) ar ?_;intro gg cap B alK alQ hat aA;have U:Cn B g m a z v:=(N.alloc (N.drew h') _).grown alQ hl;have k3:=U.rD 3 I;have kf:=U.frozen 3;clear c0 c1 c3);all_goals(go_wp2_with fail;go_meet;exact aev U hB rH hgl hOB alK alQ hat)
 case rest=>
  obtain⟨v',F,ht2,hB2,auQ⟩:=hcut;clear h' ht' hB hOB;have c1:=F.rD 1 I;have c2:=F.rD 2 I;have f1:=F.frozen 1;have f2:=F.frozen 2;have HOB:=J auQ;clear auQ;by_cases hz3:z+(c+1)<=255
  ·
   have aAw:(z:Int)+((c:Int)+1)<=255:=Y;go_wp2_with fail;go_end0;refine .inl ⟨hz3,I,v',?_,?_,(hB2.setCell rH _).setCell rH _,HOB.out⟩
   ·have:=(F.set 1 (.int .i64 ((a:Int)+c))).set 2 (.int .i64 ((z:Int)+(c+1)));unfold Cn;rw[show((a+c:Nat):Int)=(a:Int)+c by omega,show((z+(c+1):Nat):Int)=(z:Int)+(c+1)by omega];exact this
   ·
    have O:∀k,v'.ownBlock=some k->k≠g:=fun k O=>(HOB.out k O).2
    exact ownsRow_setCell_other (ownsRow_setCell_other ht2 (fun e=>O g e I) _) (fun e=>O g e I) _
  ·have aAw:(255:Int)<(z:Int)+((c:Int)+1):=Y;go_wp2_with fail;exact⟨I,.inr ⟨Y,I,(hB2.setCell rH _).setCell rH _⟩⟩
def ab6(m:List UInt8)(g lo:Nat)(w:World)(o:GO)(e:Ending)(w':World):Prop:=
 match o with
 | .err x=>e= .panicked (PD x)/\Below lo w w'
 | .ok l n=>e= .returned (.int .i64 n)/\∃v a z,Cn w' g m a z v/\tw w' v l/\Below lo w w'/\(∀k,v.ownBlock=some k->lo<=k/\k≠g)
 | .go _=>False
def YT:Option Nat->Int
 |none=> -1
 |some b=>b
def afz(m:List UInt8)(g lo:Nat)(w:World)(o:GO)(k:Nat)(behind bound:Value)(wr:World):Prop:=
 ∃(s:GS) (v:Value),BQ s<=k/\zY m s o/\s.at'<=m.length/\s.bound<=m.length/\s.size<=255/\s.acc.length<=s.size/\behind= .int .i64 (YT s.behind)/\(∀b,s.behind=some b->b<=m.length)/\bound= .int .i64 s.bound/\
  Cn wr g m s.at' s.size v/\tw wr v s.acc/\Below lo w wr/\(∀k,v.ownBlock=some k->lo<=k/\k≠g)
theorem IG{m:List UInt8}{s s':GS}{o:GO}(hg:zY m s o)(h:um m s= .go s')(hs:s.size<=255):zY m s' o/\BQ s'<BQ s:=⟨Vb hg h,(PB h hs).1⟩
section
variable {m:List UInt8} {at' size bound c:Nat} {behind:Option Nat} {acc:List (List UInt8)}
theorem Nx(U:¬m.length<=at')(hc:0=(m.getD at' 0).toNat):um m ⟨at',size,bound,behind,acc⟩= .ok acc (behind.getD (at'+1)):=by
 unfold um;simp only;rw[if_neg U,if_pos hc.symm]
theorem PQ(U:¬m.length<=at')(hc:c=(m.getD at' 0).toNat)(h0:c≠0)(h63:c<=63)(hs:m.length<at'+1+c):um m ⟨at',size,bound,behind,acc⟩= .err 1:=by
 unfold um;simp only;rw[<-hc,if_neg U,if_neg h0,if_pos h63,if_pos hs]
theorem Vc(U:¬m.length<=at')(hc:c=(m.getD at' 0).toNat)(h0:c≠0)(h63:c<=63)(hs:¬m.length<at'+1+c)(hz:255<size+(c+1)):um m ⟨at',size,bound,behind,acc⟩= .err 3:=by
 unfold um;simp only;rw[<-hc,if_neg U,if_neg h0,if_pos h63,if_neg hs,if_pos hz]
theorem Th(U:¬m.length<=at')(hc:c=(m.getD at' 0).toNat)(h0:c≠0)(h63:c<=63)(hs:¬m.length<at'+1+c)(hz:¬255<size+(c+1)):
  um m ⟨at',size,bound,behind,acc⟩= .go ⟨at'+1+c,size+(c+1),bound,behind,acc++[(m.take (at'+1+c)).drop (at'+1)]⟩:=by
 unfold um;simp only;rw[<-hc,if_neg U,if_neg h0,if_pos h63,if_neg hs,if_neg hz]
theorem YU(U:¬m.length<=at')(hc:c=(m.getD at' 0).toNat)(h63:¬c<=63)(aiT:c<192):um m ⟨at',size,bound,behind,acc⟩= .err 7:=by
 unfold um;simp only;rw[<-hc,if_neg U,if_neg Y,if_neg h63,if_pos aiT]
theorem Lb(U:¬m.length<=at')(hc:c=(m.getD at' 0).toNat)(aiT:¬c<192)(hs:m.length<=at'+1):um m ⟨at',size,bound,behind,acc⟩= .err 1:=by
 unfold um;simp only;rw[<-hc,if_neg U,if_neg Y,if_neg Y,if_neg aiT,if_pos hs]
theorem Vd(U:¬m.length<=at')(hc:c=(m.getD at' 0).toNat)(aiT:¬c<192)(hs:¬m.length<=at'+1)(hd:d=(m.getD (at'+1) 0).toNat)(Z:bound<=c*256+d-49152):um m ⟨at',size,bound,behind,acc⟩= .err 9:=by
 unfold um;simp only;rw[<-hc,<-hd,if_neg U,if_neg Y,if_neg Y,if_neg aiT,if_neg hs,if_pos Z]
theorem Ti(U:¬m.length<=at')(hc:c=(m.getD at' 0).toNat)(aiT:¬c<192)(hs:¬m.length<=at'+1)(hd:d=(m.getD (at'+1) 0).toNat)(Z:¬bound<=c*256+d-49152):
  um m ⟨at',size,bound,behind,acc⟩= .go ⟨c*256+d-49152,size,c*256+d-49152,some (behind.getD (at'+2)),acc⟩:=by
 unfold um;simp only;rw[<-hc,<-hd,if_neg U,if_neg Y,if_neg Y,if_neg aiT,if_neg hs,if_neg Z]
end
theorem Cn.lt{g:Nat}{m:List UInt8}(h:Cn w g m a z v):g<w.heap.size:=N.lt h
theorem II{lo g:Nat}{wr:World}(hB:Below lo w wr)(hg:wr.grownBy B (some g))(aA:g<wr.heap.size)(rH:lo<=g):Below lo w B:=hB.grown hg Y aP
theorem YV(g:Nat)(m:List UInt8)(a:Nat)(lo:Nat)(o:GO)(w:World)(h:Cn w g m a 1 (.slice none 0 0))(rH:lo<=g)(E:m.length<=4000000)(ha:a<=m.length)(ho:zY m ⟨a,1,a,none,[]⟩ o):
  Calls prog 188 #[.pointer (some ⟨g,0,none⟩)] w (ab6 m g lo w o):=by
 have c1:=h.rD 1 I;go_enter func188,ntmps188;go_wp2_with fail;go_loopg [3,4] (BQ ⟨a,1,a,none,[]⟩) (fun k behind bound wr=>afz m g lo w o k behind bound wr)
 case atStart=>exact⟨⟨a,1,a,none,[]⟩,.slice none 0 0,Nat.le_refl _,ho,ha,ha,ar,ar,I,ar,I,h,tw.nil _,Below.refl _ _,by simp[Value.ownBlock]⟩
 case round=>
  clear c1 h ho;obtain⟨⟨at',size,bound,behind,acc⟩,v,O,hG,hat,hbd,hsz,arS,rfl,hbh,rfl,hR,hT,hB,hob⟩:=hrel;simp only at O hG hat hbd hsz arS hbh hR hT;have HG:=J hG;have HOB:=J hob;have HBH:=J hbh;clear hG hob hbh;by_cases U:m.length<=at'
  ·have e1:o= .err 1:=zf HG.out (by simp[um,U]);subst e1;go_wp2_with fail;refine(PJ g m at' size v _ hR E U).mono ?_;rintro e B ⟨rfl,hg⟩;go_wp2_with fail;exact⟨I,I,hB.grown hg aQ aP⟩
  ·
   have C:=K9 g m at' size v wr hR E Y;obtain⟨c,hc⟩:∃c,c=(m.getD at' 0).toNat:=gh;have aF4:c<256:=by rw[hc];exact UInt8.toNat_lt _
   unfold Tg at C;rw[<-hc]at C;have HC:=J hc;clear hc;go_wp2_with fail;refine C.mono ?_;rintro e B ⟨rfl,hR1,hg1,hs1⟩;have hB1:Below lo w B:=hB.grown hg1 aQ aP;have hT1:tw B v acc:=hT.grown hg1 hR K;clear C hR hT hB hg1 hs1;clear wr;have hg1:=hR1.lt;by_cases h0:c=0
   ·
    subst h0;have r1:=hR1.rD 1 I;cases behind with
    |none=>have e1:o= .ok acc (at'+1):=mo;subst e1;unfold YT;go_wp2_with fail;go_ret;exact⟨wv (by go_num),v,_,_,hR1,hT1,hB1,HOB.out⟩
    |some b=>have e1:o= .ok acc b:=mo;subst e1;unfold YT;have hb0:(0:Int)<=b:=Y;go_wp2_with fail;go_ret;exact⟨I,v,_,_,hR1,hT1,hB1,HOB.out⟩
   ·
    have h0':((c:Int)==0)=false:=aB;by_cases h63:c<=63
    ·
     have aCs:(c:Int)<=63:=Y;by_cases hs:m.length<at'+1+c
     ·have e1:o= .err 1:=zf HG.out (PQ U HC.out h0 h63 hs);subst e1;clear h0;go_wp2_with fail;refine(PM g m (at'+1) size c v _ hR1 E Y h63 Y).mono ?_;exact pW
     ·
      have C:=Wm g m (at'+1) size c v acc lo B hR1 hT1 rH HOB.out E Y hsz h63 Y;by_cases hz:255<size+(c+1)
      ·
       have e1:o= .err 3:=zf HG.out (Vc U HC.out h0 h63 hs hz);subst e1;clear h0;go_wp2_with fail;refine C.mono ?_;rintro e w2 (⟨h,_⟩|⟨_,rfl,Z⟩)
       ·omega
       go_wp2_with fail;exact⟨I,I,hB1.trans Z⟩
      ·
       obtain⟨G2,M2⟩:=IG HG.out (Th U HC.out h0 h63 hs hz) hsz;have HG2:=J G2;have hm2:=Nat.lt_of_lt_of_le M2 O;clear h0 G2 M2;go_wp2_with fail;refine C.mono ?_;rintro e w2 (⟨_,rfl,v2,hR2,hT2,hB2,ho2⟩|⟨h,_⟩)
       ·
        go_wp2_with fail;go_roundg (BQ ⟨at'+1+c,size+(c+1),bound,behind,acc++[(m.take (at'+1+c)).drop (at'+1)]⟩)
        case measure=>exact hm2
        case rel=>exact⟨_,v2,Nat.le_refl _,HG2.out,aB,hbd,aB,aB,I,HBH.out,I,hR2,hT2,hB1.trans hB2,ho2⟩
       ·omega
    ·
     have aCs:(63:Int)<c:=Y;by_cases aiT:c<192
     ·have av1:(c:Int)<192:=Y;have e1:o= .err 7:=zf HG.out (YU U HC.out h63 aiT);subst e1;clear h0;go_wp2_with fail;exact⟨I,I,hB1⟩
     ·
      have av1:(192:Int)<=c:=Y;by_cases hps:m.length<=at'+1
      ·have e1:o= .err 1:=zf HG.out (Lb U HC.out aiT hps);subst e1;clear h0;go_wp2_with fail;refine(PJ g m (at'+1) size v _ hR1 E hps).mono ?_;exact pW
      ·
       have C:=K9 g m (at'+1) size v B hR1 E Y;obtain⟨d,hd⟩:∃d,d=(m.getD (at'+1) 0).toNat:=gh;have aFZ:d<256:=by rw[hd];exact UInt8.toNat_lt _
       unfold Tg at C;rw[<-hd]at C;have HD:=J hd;clear hd h0;go_wp2_with fail;refine C.mono ?_;rintro e w2 ⟨rfl,hR2,hg2,hs2⟩;have hB2:Below lo w w2:=II hB1 hg2 hg1 rH;have hT2:tw w2 v acc:=hT1.grown hg2 hR1 K;clear C hR1 hT1 hB1 hg2 hs2 hg1;clear B;have r1:=hR2.rD 1 I;have fr1:=hR2.frozen 1;by_cases hpb:bound<=c*256+d-49152
       ·have e1:o= .err 9:=zf HG.out (Vd U HC.out aiT hps HD.out hpb);subst e1;have aAR:(bound:Int)<=(c:Int)*256+d-49152:=Y;go_wp2_with fail;exact⟨I,I,hB2⟩
       ·
        obtain⟨G2,M2⟩:=IG HG.out (Ti U HC.out aiT hps HD.out hpb) hsz;have HG2:=J G2;have HM:=J (Nat.lt_of_lt_of_le M2 O);have aAR:(c:Int)*256+d-49152<bound:=Y;clear G2 M2;obtain⟨q,hq⟩:∃q,q=c*256+d-49152:=gh;rw[<-hq]at HG2 HM;have hqi:(c:Int)*256+d-49152=q:=Y;have HQ:=J hqi;have hqb:q<bound:=Y;have aAQ:at'+2<=m.length:=Y;clear hq hqi hpb U hps O;have hR3:∀u,u=Value.int .i64 (q:Int)->Cn (w2.setCell ⟨g,1,none⟩ u) g m q size v:=fun u hu=>by subst hu;exact hR2.set 1 _
        have hT3:∀u,tw (w2.setCell ⟨g,1,none⟩ u) v acc:=fun u=>ownsRow_setCell_other hT2 (fun e=>(HOB.out g e).2 I) _
        have HR3:=J hR3;have HT3:=J hT3;clear hR3 hT3;cases behind with
        |none=>
         unfold YT;go_wp2_with fail;go_roundg (BQ ⟨q,size,q,some (at'+2),acc⟩)
         case measure=>exact HM.out
         case rel=>exact⟨_,v,Nat.le_refl _,HG2.out,fR,fR,hsz,arS,congrArg (Value.int .i64) (show(at':Int)+1+1=((at'+2:Nat):Int)by omega),(fun b Z=>by injection Z with Z;subst Z;exact aAQ),by rw[HQ.out],HR3.out _ (by rw[HQ.out]),HT3.out _,hB2.setCell rH _,HOB.out⟩
        |some b=>
         unfold YT;have hb0:(0:Int)<=b:=Y;go_wp2_with fail;go_roundg (BQ ⟨q,size,q,some b,acc⟩)
         case measure=>exact HM.out
         case rel=>exact⟨_,v,Nat.le_refl _,HG2.out,fR,fR,hsz,arS,I,fun b' hb'=>HBH.out b' hb',by rw[HQ.out],HR3.out _ (by rw[HQ.out]),HT3.out _,hB2.setCell rH _,HOB.out⟩
theorem IJ{fn:Func}{c₀:Frame}{cs:List Frame}{R:Ending->FrameMode->World->Prop}{u':FrameMode}{c:Code}{a:Act}
  (h:c.wp P (bodyPost P fn (fun e w'=>R e u' w')) a w):c.wpS P (bodyPostS P fn c₀ cs R) a ({c₀ with mode:=u'}::cs) w:=by
 refine wpS_of_wp (Code.wp_mono ?_ h);intro e a' w' hq;cases e with
 |normal=>exact⟨hq.1,u',I,hq.2⟩
 |ret=>exact⟨hq.1,u',I,hq.2⟩
 |panic ch=>exact⟨hq.1,u',I,hq.2⟩
 |outgrown=>exact⟨u',hq⟩
 |exit id=>exact hq
 |goto l=>exact hq
theorem Le{fn:Func}{c₀:Frame}{cs:List Frame}{R:Ending->FrameMode->World->Prop}{u:FrameMode}{c:Code}{a:Act}(hu:c₀.mode=u)
  (h:c.wp P (bodyPost P fn (fun e w'=>R e u w')) a w):c.wpS P (bodyPostS P fn c₀ cs R) a (c₀::cs) w:=by
 have:=IJ (c₀:=c₀) (cs:=cs) h;cases c₀;simp at hu;subst hu;exact this
theorem Ia{hb:Exit->Act->World->Prop}{c:Code}{t:Array Value}{d:List Deferred}(l:List Value)(e:t=l.toArray)(h:c.wp P hb ⟨l.toArray,d⟩ w):c.wp P hb ⟨t,d⟩ w:=e▸h
theorem Wn(p q r:Addr)(w:World):
  CallsD prog 187 #[.pointer (some p),.pointer (some q),.pointer (some r)] .returning w fun e u' w'=>e= .returned (.tuple #[])/\u'= .returning/\w'=w:=by
 refine callsD_of_wpS func187 I fun c₀ cs hu=>?_
 apply wpS_seq;apply wpS_region;simp[wpOpsS,go_sem,recoverD,hu,ntmps187,Exit.thenS];refine Le hu ?_;refine Ia [.pointer (some p),.pointer (some q),.pointer (some r),.nilIface,undef,undef,.nilIface,undef,undef,undef,undef,undef,undef,undef,undef,undef,undef,undef,undef] aN ?_;exact oZ
def aew(b0:Nat)(x:Int)(w w':World):Prop:=N w' b0 24 [.slice none 0 0]/\N w' (b0+1) 3 [.int .i64 0]/\N w' (b0+2) 37 [.int .i64 x]/\Below b0 w w'
theorem Wo(b0:Nat)(v0 v1 v2:Value)(x:Int)(w:World)(h0:N w b0 24 [v0])(U:N w (b0+1) 3 [v1])(F:N w (b0+2) 37 [v2]):
  CallsD prog 187 #[.pointer (some ⟨b0,0,none⟩),.pointer (some ⟨b0+1,0,none⟩),.pointer (some ⟨b0+2,0,none⟩)] (.panicking (PD x)) w fun e u' w'=>
   e= .returned (.tuple #[])/\u'= .panicking [{v:=.iface 293 (.agg #[.int .i64 x]),recovered:=true}]/\aew b0 x w w':=by
 have hTa:∀w:World,(Instr.typeAssert (.iface 293 (.agg #[.int .i64 x])) 20 293 true).run prog w= .ok (.tuple #[.agg #[.int .i64 x],.bool true]) w:=fun _=>by kernel_rfl
 have c0:=h0.rD 0 I;have c1:=U.rD 0 I;have c2:=F.rD 0 I;have f0:=h0.frozen 0;have f1:=U.frozen 0;have f2:=F.frozen 0;refine callsD_of_wpS func187 I fun c₀ cs hu=>?_
 unfold PD at hu;apply wpS_seq;apply wpS_region;simp[wpOpsS,go_sem,recoverD,hu,ntmps187,Exit.thenS];refine IJ (u':=.panicking [{v:=.iface 293 (.agg #[.int .i64 x]),recovered:=true}]) ?_;refine Ia [.pointer (some ⟨b0,0,none⟩),.pointer (some ⟨b0+1,0,none⟩),.pointer (some ⟨b0+2,0,none⟩),.iface 293 (.agg #[.int .i64 x]),undef,undef,.iface 293 (.agg #[.int .i64 x]),undef,undef,undef,undef,undef,undef,undef,undef,undef,undef,undef,undef] aN ?_;clear hu;have l0:=h0.lt;have l1:=U.lt;have l2:=F.lt;go_wp2;go_region;all_goals go_end0
 all_goals
  refine⟨I,I,N.drew (N.alloc (N.wZ (N.wZ (h0.set 0 _) ar _) ar _) _),N.drew (N.alloc (N.wZ (N.set (U.wZ ar _) 0 _) ar _) _),N.drew (N.alloc (N.set (N.wZ (F.wZ ar _) ar _) 0 _) _),?_⟩;exact(((((Below.refl _ _).setCell ar _).setCell ar _).setCell ar _).alloc aB _).drew
def ab7(m:List UInt8):Nat->GS->GO
 |0,_=>.err 15
 |k+1,s=>match um m s with
  | .go s'=>ab7 m k s'
  | .err e=>.err e
  | .ok l n=>.ok l n
theorem Wp(m:List UInt8):∀(k:Nat) (s:GS),BQ s<k->s.size<=255->zY m s (ab7 m k s):=by
 intro k;induction k with
 |zero=>intro s h;omega
 |succ k ih=>
  intro s h hs;unfold ab7;cases e:um m s with
  |err x=>exact .err e
  |ok l n=>exact .ok e
  |go s'=>obtain⟨U,F⟩:=PB e hs;exact .go e (ih s' Y F)
theorem YW{m:List UInt8}{s:GS}{o o':GO}(h:zY m s o)(h':zY m s o'):o=o':=by
 induction h with
 |err e=>exact(zf h' e).symm
 |ok e=>exact(Va h' e).symm
 |go e _ ih=>exact ih (Vb h' e)
def Tj(m:List UInt8)(a:Nat):GO:=ab7 m (a*300+300) ⟨a,1,a,none,[]⟩
theorem Ib(m:List UInt8)(a:Nat):zY m ⟨a,1,a,none,[]⟩ (Tj m a):=Wp m _ _ (by simp[BQ]) ar
def Ny(m:List UInt8)(rU:Int):Bool:=decide (rU<0)||decide ((m.length:Int)<rU)
def goN:GO->List (List UInt8)
 | .ok l _=>l
 |_=>[]
def goB:GO->Int
 | .ok _ n=>n
 |_=>0
def goE:GO->Int
 | .ok _ _=>0
 | .err e=>e
 | .go _=>0
def Ca(m:List UInt8)(rU:Int):GO:=if Ny m rU then .err 4 else Tj m rU.toNat
def IK(o:GO)(w:World)(e:Ending)(w':World):Prop:=
 ∃v,e= .returned (.tuple #[v,.int .i64 (goB o),.int .i64 (goE o)])/\tw w' v (goN o)/\ao w w'/\(∀k,v.ownBlock=some k->w.heap.size<=k)
theorem ab8(m:List UInt8)(rU:Int)(w:World)(h:Ny m rU=true):
  Calls prog 184 #[.string (bs m),.int .i64 rU] w (IK (.err 4) w):=by
 have Z:rU<0\/(0<=rU/\(m.length:Int)<rU):=by simp[Ny]at h;omega
 clear h;have hmf:∀(fn:Fn) (first cap:Array Value) (w:World),(Instr.makeFunc fn first cap).run prog w= .ok (.func fn first cap) w:=jN;rcases Z with h|⟨h0,h⟩;all_goals
  go_enter_defers func184,ntmps184;go_wp2_with fail;simp[bodyPostD,Leaves,results,Tryz.results184,go_sem];exact⟨_,I,tw.nil _,(((Below.refl _ _).alloc (Nat.le_refl _) _).alloc ar _).alloc aB _,by simp[Value.ownBlock]⟩
theorem aex(m:List UInt8)(a:Nat)(w:World)(E:m.length<=4000000)(ha:a<=m.length)(o:GO)(ho:zY m ⟨a,1,a,none,[]⟩ o):
  Calls prog 184 #[.string (bs m),.int .i64 a] w (IK o w):=by
 have ha':(a:Int)<=m.length:=Y;have ha0:(0:Int)<=a:=Y;have hmf:∀(fn:Fn) (first cap:Array Value) (w:World),(Instr.makeFunc fn first cap).run prog w= .ok (.func fn first cap) w:=jN;go_enter_defers func184,ntmps184;go_wp2_with fail;refine(YV _ m a (w.heap.size+1+1+1) o _ (N.uE _ _ [.string (bs m),.int .i64 a,.int .i64 1,.slice none 0 0] _ ar) (Nat.le_refl _) E ha ho).mono ?_;have n0:∀o1 o2 o3,N ((((w.alloc (.cells #[.slice none 0 0] 24)).alloc o1).alloc o2).alloc o3) w.heap.size 24 [.slice none 0 0]:=fun o1 o2 o3=>(((N.new w _ [.slice none 0 0]).alloc _).alloc _).alloc _
 have n1:∀o2 o3,N ((((w.alloc (.cells #[.slice none 0 0] 24)).alloc (.cells #[.int .i64 0] 3)).alloc o2).alloc o3) (w.heap.size+1) 3 [.int .i64 0]:=fun o2 o3=>((N.uE _ _ [.int .i64 0] _ ar).alloc _).alloc _
 have n2:∀o3,N ((((w.alloc (.cells #[.slice none 0 0] 24)).alloc (.cells #[.int .i64 0] 3)).alloc (.cells #[.int .i64 0] 37)).alloc o3) (w.heap.size+1+1) 37 [.int .i64 0]:=fun o3=>(N.uE _ _ [.int .i64 0] _ ar).alloc _
 have hB0:∀o1 o2 o3 o4,Below w.heap.size w ((((w.alloc o1).alloc o2).alloc o3).alloc o4):=fun o1 o2 o3 o4=>((((Below.refl _ _).alloc (Nat.le_refl _) _).alloc ar _).alloc aB _).alloc aB _
 cases o with
 |go s=>intro e B h;exact False.elim h
 |err x=>rintro e B ⟨rfl,hB⟩;have k0:=(n0 _ _ _).G hB Y;have k1:=(n1 _ _).G hB Y;have k2:=(n2 _).G hB Y;have hB1:ao w B:=(hB0 _ _ _ _).trans (hB.mono Y);clear n0 n1 n2 hB0 hB;go_wp2_with fail;refine leaves_cons (f:=187) (args:= #[.pointer (some ⟨w.heap.size,0,none⟩),.pointer (some ⟨w.heap.size+1,0,none⟩),.pointer (some ⟨w.heap.size+1+1,0,none⟩)]) ar aR ?_;refine(Wo w.heap.size _ _ _ x _ k0 k1 k2).mono ?_;rintro e u' w2 ⟨rfl,rfl,c0,c1,c2,hB2⟩;have v0:=c0.rD 0 I;have v1:=c1.rD 0 I;have v2:=c2.rD 0 I;simp[Leaves,settle,results,Tryz.results184,go_sem,v0,v1,v2];exact⟨_,I,tw.nil _,hB1.trans hB2,by simp[Value.ownBlock]⟩
 |ok l n=>
  rintro e B ⟨rfl,v,a',z',hR,hT,hB,hob⟩;obtain⟨A,c,hv,-,-⟩:=hT.form;rw[hv]at hR hT hob;clear hv;have k0:=(n0 _ _ _).G hB Y;have k1:=(n1 _ _).G hB Y;have k2:=(n2 _).G hB Y;have hB1:ao w B:=(hB0 _ _ _ _).trans (hB.mono Y);have HOB:=J hob;clear n0 n1 n2 hB0 hB hob;have u3:=hR.rD 3 I;have v0:=k0.rD 0 I;have v1:=k1.rD 0 I;have v2:=k2.rD 0 I;have f0:=k0.frozen 0;have f1:=k1.frozen 0;have f2:=k2.frozen 0;go_wp2_with fail;go_region;go_wp2_with fail;refine leaves_cons (f:=187) (args:= #[.pointer (some ⟨w.heap.size,0,none⟩),.pointer (some ⟨w.heap.size+1,0,none⟩),.pointer (some ⟨w.heap.size+1+1,0,none⟩)]) ar aR ?_;refine(Wn _ _ _ _).mono ?_;rintro e u' w2 ⟨rfl,rfl,rfl⟩;simp[Leaves,settle,results,Tryz.results184,go_sem,v0,v1,v2];have wZ:∀{W:World} {b:Nat} (u:Value),b<w.heap.size+1+1+1->tw W (.slice A l.length c) l->tw (W.setCell ⟨b,0,none⟩ u) (.slice A l.length c) l:=fun{W} {b} u Z hT=>ownsRow_setCell_other hT (fun e=>by have:=(HOB.out b e).1;omega) _
  refine⟨_,I,wZ _ Y (wZ _ Y (wZ _ Y (wZ _ Y hT))),?_,fun k O=>by have:=(HOB.out k O).1;omega⟩;exact((((hB1.setCell ar _).setCell ar _).setCell ar _).setCell aB _).drew
theorem Ve(m:List UInt8)(rU:Int)(w:World)(E:m.length<=4000000):
  Calls prog 184 #[.string (bs m),.int .i64 rU] w (IK (Ca m rU) w):=by
 unfold Ca;cases h:Ny m rU with
 |true=>rw[if_pos I];exact ab8 m rU w h
 |false=>rw[if_neg ar];have Z:0<=rU/\rU<=m.length:=mi;have:=aex m rU.toNat w E Y _ (Ib m rU.toNat);rwa[Int.toNat_of_nonneg Z.1]at this
end Go.Proofs.YtakkipnmpmobbaaGreat
