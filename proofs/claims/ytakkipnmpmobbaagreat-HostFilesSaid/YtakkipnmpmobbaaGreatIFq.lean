/-
  Layer 26 (chain),plain:the records that are a name's,its first link,and what the chain leads to.
-/
import Derived.Test.YtakkipnmpmobbaaGreatIC2q
namespace Go.Proofs.YtakkipnmpmobbaaGreat
open _root_.Go.Proofs.Tryz
set_option maxHeartbeats 8000000
open Go.RowKit
set_option linter.unusedVariables false
variable {S:Nat->Prop} {w w':World} {e eb:Bool} {g gl h:Nat} {vn hs:Value} {qs:List Value}
def SX(n:List (List UInt8))(k c:Int)(r:RR):Bool:=decide (r.Q=k)&&(decide (r.cl=c)&&decide (tF r.name=tF n))
def Hi(l:List RR)(n:List (List UInt8))(k c:Int):List RR:=l.filter (SX n k c)
def wi(Q cl:Int)(n:List (List UInt8)):List RR->Nat->Int->Int
 |[],_,i=>i
 |r::l,k,i=>wi Q cl n l (k+1) (if i<0/\r.Q≠Q/\SX n 5 cl r=true then k else i)
theorem MB(Q cl:Int)(n:List (List UInt8))(b:List RR):∀(a:List RR) (k:Nat) (i:Int),wi Q cl n (a++b) k i=wi Q cl n b (k+a.length) (wi Q cl n a k i)
 |[],k,i=>rfl
 |r::a,k,i=>by
  show wi Q cl n (a++b) (k+1) _=_;rw[MB Q cl n b a (k+1)];rw[List.length_cons,show k+1+a.length=k+(a.length+1)by omega];rfl
structure Fnd where
 name:List (List UInt8)
 ag7:List RR
 ttl:Option Int
 ani:Nat
def xw(t:Option Int)(n:Int):Option Int:=match t with
 |none=>some n
 |some m=>if n<m then some n else some m
def uO(q:Qn)(l:List RR):Nat->Nat->List (List UInt8)->Option Int->Except Int Fnd
 |f,k,n,t=>match Hi l n q.Q q.cl with
  |r::rs=>.ok ⟨n,r::rs,(r::rs).foldl (fun t r=>xw t r.ttl) t,k⟩
  |[]=>match Hi l n 5 q.cl with
   |[]=>.error 11
   |r::_=>match f with
    |0=>.error 15
    |f+1=>uO q l f (k+1) r.tg (xw t r.ttl)
theorem Rj(Q cl:Int)(n:List (List UInt8)):∀(l:List RR) (k:Nat),Hi l n Q cl=[]->match Hi l n 5 cl with
  |[]=>wi Q cl n l k (-1)= -1
  |r::_=>∃j:Nat,wi Q cl n l k (-1)=((k+j:Nat):Int)/\l[j]?=some r
 |[],k,_=>rfl
 |r::l,k,h=>by
  unfold Hi at h;rw[List.filter_cons]at h;split at h
  ·cases h
  rename_i hn;have hn:SX n Q cl r=false:=iV;unfold Hi;rw[List.filter_cons];have ih:=Rj Q cl n l (k+1) h;unfold Hi at ih;by_cases h5:SX n 5 cl r=true
  ·
   rw[if_pos h5];have hty:r.Q≠Q:=by intro e;unfold SX at hn h5;rw[e]at hn;simp at hn h5;exact hn h5.2.1 h5.2.2
   refine⟨0,?_,I⟩;show wi Q cl n l (k+1) (if(-1:Int)<0/\r.Q≠Q/\SX n 5 cl r=true then(k:Int)else-1)=_;rw[if_pos ⟨K,hty,h5⟩];exact ajJ Q cl n l (k+1) k Y
  ·
   rw[if_neg h5];have e:wi Q cl n (r::l) k (-1)=wi Q cl n l (k+1) (-1):=by show wi Q cl n l (k+1) (if(-1:Int)<0/\r.Q≠Q/\SX n 5 cl r=true then(k:Int)else-1)=_;rw[if_neg (fun h=>h5 h.2.2)]
   rw[e];cases hf:List.filter (SX n 5 cl) l with
   |nil=>rw[hf]at ih;exact ih
   |cons x xs=>rw[hf]at ih;obtain⟨j,U,F⟩:=ih;exact⟨j+1,by rw[U];congr 1;omega,fT⟩
where
 ajJ (Q cl:Int) (n:List (List UInt8)):∀(l:List RR) (k:Nat) (i:Int),0<=i->wi Q cl n l k i=i
  |[],k,i,_=>rfl
  |r::l,k,i,h=>by
   show wi Q cl n l (k+1) (if i<0/\r.Q≠Q/\SX n 5 cl r=true then(k:Int)else i)=i;rw[if_neg (fun h'=>by omega)];exact ajJ Q cl n l (k+1) i h
set_option maxRecDepth 100000
set_option linter.unusedSimpArgs false
def ac2(rs:List RR)(i:Int)(w:World)(e:Ending)(w':World):Prop:=∃A c,e= .returned (.tuple #[.slice A rs.length c,.int .i64 i])/\sM w' w.heap.size (.slice A rs.length c) rs/\ao w w'
theorem aeQ(n:List (List UInt8))(k c:Int)(r:RR):SX n k c r=(decide (r.Q=k)&&(decide (r.cl=c)&&decide (tF r.name=tF n))):=rfl
theorem aaQ:(prog.info? 201).map (·.size)=some 33:=by kernel_rfl
theorem Rk:(prog.info? 201).map (fun i=>(i.zero,i.size,i.bytes))=some (some (.agg vM.toArray),33,208):=by kernel_rfl
theorem aaR(vq:Value)(Q cl:Int)(A Al:Option Addr)(c cA:Nat)(n:List (List UInt8))(l:List RR)(w:World)(hN:wA w A c n)(hL:sM w 0 (.slice Al l.length cA) l)(E:l.length<=65535):
  Calls prog 119 #[.agg #[vq,.int .i64 Q,.int .i64 cl],.slice A n.length c,.slice Al l.length cA] w (ac2 (Hi l n Q cl) (wi Q cl n l 0 (-1)) w):=by
 have HX:Below w.heap.size w (w.alloc (.cells #[vq,.int .i64 Q,.int .i64 cl] 160)):=fZ;have BX:=N.new w 160 [vq,.int .i64 Q,.int .i64 cl];go_enter func119,ntmps119;go_wp2_with fail;go_loopw[8,9,14] (fun rv lv iv wr=>∃k:Nat,k<=l.length/\iv= .int .i64 k/\lv= .int .i64 (wi Q cl n (l.take k) 0 (-1))/\sM wr w.heap.size rv (Hi (l.take k) n Q cl)/\ao w wr/\N wr w.heap.size 160 [vq,.int .i64 Q,.int .i64 cl]) (fun _ _ iv _=>l.length-(intOf iv).toNat)
 case atStart=>exact⟨0,Nat.zero_le _,I,I,sM.nil _ _,HX,BX⟩
 clear HX BX;obtain⟨k,O,rfl,rfl,ho,hB,BX⟩:=hrel;obtain⟨Ak,ck,hv⟩:=ho.form;subst hv;by_cases aA:k<l.length
 case neg=>have h1:¬(k:Int)<l.length:=Y;rw[List.take_of_length_le Y]at ho⊢;go_wp2_with fail;go_ret2;exact⟨Ak,ck,I,ho,hB⟩
 have h1:(k:Int)<l.length:=Y;obtain⟨gs,hA,hgs,hr⟩:=hL.rU (fun _ _ h=>h.len) Y;obtain⟨cx,hcx,hce⟩:=hr k aA;have hcx:=rN hcx hB hgs;subst hA;have hcl:=hce.len;have w1:=hce.one;rw[Nat.zero_add]at hcx;have l64:(0:Int)<=k:=Y;have SF:Hid (Hi (l.take (k+1)) n Q cl=Hi (l.take k) n Q cl++(if SX n Q cl l[k]=true then[l[k]]else[])):=J (by unfold Hi;exact ux aA);have SL:Hid (wi Q cl n (l.take (k+1)) 0 (-1)=if wi Q cl n (l.take k) 0 (-1)<0/\l[k].Q≠Q/\SX n 5 cl l[k]=true then(k:Int)else wi Q cl n (l.take k) 0 (-1)):=J (by
  rw[List.take_succ_eq_append_getElem aA,MB,List.length_take,Nat.min_eq_left O,Nat.zero_add];rfl)
 obtain⟨vn,vt,vm,hcs,hwf,hnm,htg,hml,_⟩:=hce;obtain⟨An,cn,hv,hNn⟩:=hnm.form;subst hv;have e0:cx[0]?=some (.slice An l[k].name.length cn):=dh;have e1:cx[1]?=some (.int .i64 l[k].Q):=dh;have e2:cx[2]?=some (.int .i64 l[k].cl):=dh;have CE:Hid (wB w cx l[k]):=J ⟨_,vt,vm,hcs,hwf,hnm,htg,hml,aV⟩;have DS:Hid (∀W,ao w W->Calls prog 110 #[.slice An l[k].name.length cn,.slice A n.length c] W (rW (.bool (decide (tF l[k].name=tF n))) W)):=J (fun W Z=>Gf An A l[k].name n cn c W (hNn.G Z) (hN.G Z));have HO:=J ho;have aAT:(Hi (l.take k) n Q cl).length<=65535:=by have:(Hi (l.take k) n Q cl).length<=(l.take k).length:=List.length_filter_le _ _;simp at this;omega
 clear hcs hwf hnm htg hml hNn ho hr hN hL;obtain⟨same,anm⟩:∃b:Bool,decide (tF l[k].name=tF n)=b:=gh;have IR:Hid (∀t' c',SX n t' c' l[k]=(decide (l[k].Q=t')&&(decide (l[k].cl=c')&&same))):=J (fun t' c'=>by rw[aeQ,anm]);rw[anm]at DS;clear anm;obtain⟨R,hR⟩:=aq (Hi (l.take k) n Q cl);rw[hR.out]at HO aAT SF⊢;obtain⟨li,hli⟩:=aq (wi Q cl n (l.take k) 0 (-1));rw[hli.out]at SL⊢;have hrz:vM.length=33:=kQ;have W1:Below wr.heap.size wr (wr.alloc (.cells vM.toArray 201)):=fZ;have BX1:=BX.G W1 BX.lt;generalize hrr:l[k]=r at*;have HRR:=J hrr;clear hrr;generalize r.name.length=nl,r.Q=rt,r.cl=rc at*;go_wp2_with(first
  |(refine rF (.load 201 (.tmp 17)) rfl ?_;go_must(refine sr rfl 201 (.tmp 17) rfl gs (k*33) rfl cx hcx _ underlying201 rfl du ?_))
  |(refine rF (.store 201 (.tmp 11) (.tmp 18)) rfl (ab rfl wr.heap.size 0 cx (N.new wr 201 vM) Y du w1 ?_)))
 intro B B1 g1 sw;clear sw;have B1':=tH B1 Y;have K1:=rE W1 g1 W1.size (Nat.le_refl _);have H1:=rC hB hB.size K1;have BX2:=BX.G K1 BX.lt;have d0:=B1'.rD 0 e0;have d1:=B1'.rD 1 e1;have d2:=B1'.rD 2 e2;have q1:=BX2.rD 1 I;have q2:=BX2.rD 2 I;have O1:=J (sM.G HO.out K1);clear B1 g1 W1 hcx BX BX1 HO e0 e1 e2;have UN:Hid (SX n Q cl r=false->¬(li<0/\rt≠Q/\SX n 5 cl r=true)->wi Q cl n (l.take (k+1)) 0 (-1)=li/\Hi (l.take (k+1)) n Q cl=R):=J (fun U F=>⟨by rw[SL.out,if_neg F],by rw[SF.out,U];simp⟩);by_cases hc:rc=cl
 case neg=>have hc':(rc !=cl)=true:=iI;obtain⟨u1,u2⟩:=UN.out (by rw[IR.out,decide_eq_false hc];simp) (fun h=>by have:=h.2.2;rw[IR.out,decide_eq_false hc]at this;simp at this);have U1:=J u1;have U2:=J u2;clear u1 u2 hc UN SF SL;exact nQ
 subst hc;have NC:Hid (same=false->wi Q rc n (l.take (k+1)) 0 (-1)=li/\Hi (l.take (k+1)) n Q rc=R):=J (fun h=>UN.out (by rw[IR.out,h];simp) (fun h'=>by have:=h'.2.2;rw[IR.out,h]at this;simp at this));by_cases ht:rt=Q
 case pos=>
  subst ht;have SL2:Hid (wi rt rc n (l.take (k+1)) 0 (-1)=li):=J (by rw[SL.out,if_neg (fun h=>h.2.1 I)]);have SF2:Hid (same=true->Hi (l.take (k+1)) n rt rc=R++[r]):=J (fun h=>by rw[SF.out,IR.out,h];simp);clear SL SF UN IR;go_wp2_with fail;refine(DS.out _ H1).mono ?_;rintro _ w2 ⟨rfl,b2⟩;have H2:=rC H1 H1.size b2;have BX3:=BX2.G b2 BX2.lt;have O2:=J (sM.G O1.out b2);cases same with
  |false=>obtain⟨u1,u2⟩:=NC.out I;have U1:=J u1;have U2:=J u2;clear u1 u2 NC SF2 SL2;exact nP
  |true=>
   have U2:=J (SF2.out I);clear NC SF2;have B2':=B1'.G b2 B1'.lt;have f1:=B2'.rD 1 dw;have g1:=BX3.rD 1 I;have CE2:=J (CE.out.rM (rZ.G H2));clear d0 d1 d2 q1 q2 b2 BX2 O1 H1 K1 B1' DS;go_wp2_with(first
    |(refine rF (.load 201 (.tmp 11)) rfl ?_;go_must(refine rG rfl _ _ rfl wr.heap.size 0 rfl B2' 33 Y _ underlying201 rfl aaQ cx (uH Y) ?_))
    |(refine rF (.buildSlice 167 1 #[(0,.tmp 51)]) rfl ?_;go_must(refine vQ rfl 167 201 _ 33 208 underlying167 Rk K K (.tmp 51) rfl cx rfl hcl ?_)))
   intro w3 B3 K3;have O3:=sM.G O2.out K3;have N3:=rJ.ne O2.out (Nat.le_refl _);have H3:=rC H2 H2.size K3;have BX4:=BX3.G K3 BX3.lt;have CE3:=CE2.out.rM (rZ.G K3);clear f1 g1 K3 O2 CE2 B2' H2 BX3;go_wp2_with(at_builtin;go_must(refine sJ _ I _ _ 167 I 201 _ 33 208 underlying167 Rk (by kernel_rfl) K w.heap.size _ _ I O3 H3.size w2.heap.size cx r I B3 N3 hcl w1 CE3 aL Y ?_));intro v5 w5 O5 g5;have hbs:=O3.base;have hso:rZ w3 w5:=by obtain⟨_,o4,_⟩:=O3;exact rZ.own o4 K g5
   have H5:=H3.grown g5 H3.size hbs;have BX5:N w5 w.heap.size 160 [vq,.int .i64 rt,.int .i64 rc]:=by obtain⟨_,o4,_⟩:=O3;exact ui BX4 o4 K g5
   have O6:sM w5 w.heap.size v5 (R++[r]):=rJ.rM O5 (fun _ x=>x) (fun _ _ x=>x.rM hso);clear g5 O3 O5 H3 B3 N3 BX4 hso;go_wp2_with fail;go_roundw
   case rel=>exact⟨k+1,Y,fQ,by rw[SL2.out],by rw[U2.out];exact O6,H5,BX5⟩
   case measure=>simp[intOf];omega
 have ht':(rt !=Q)=true:=by simpa using ht
 have aKU:(rt==Q)=false:=by simpa using ht
 have SF2:Hid (Hi (l.take (k+1)) n Q rc=R):=J (by rw[SF.out,IR.out,decide_eq_false ht];simp);by_cases h5:rt=5
 case neg=>
  have h5':(rt !=5)=true:=by simpa using h5
  obtain⟨u1,u2⟩:=UN.out (by rw[IR.out,decide_eq_false ht];simp) (fun h=>by have:=h.2.2;rw[IR.out,decide_eq_false h5]at this;simp at this);have U1:=J u1;have U2:=J u2;clear u1 u2 h5 ht UN SF SL NC SF2;exact nQ
 by_cases arw:li<0
 case neg=>have aBe:decide (0<=li)=true:=aB;have aFE:0<=li:=Y;have U1:Hid (wi Q rc n (l.take (k+1)) 0 (-1)=li):=J (by rw[SL.out,if_neg (fun h=>arw h.1)]);have U2:=SF2;subst h5;clear ht UN SF SL NC SF2 arw;exact nQ
 have aBe:decide (0<=li)=false:=aB;subst h5;have SL2:Hid (same=true->wi Q rc n (l.take (k+1)) 0 (-1)=k):=J (fun h=>by rw[SL.out,if_pos ⟨arw,ht,by rw[IR.out,h];simp⟩]);clear SL SF UN IR ht;go_wp2_with fail;refine(DS.out _ H1).mono ?_;rintro _ w2 ⟨rfl,b2⟩;have H2:=rC H1 H1.size b2;have BX3:=BX2.G b2 BX2.lt;have O2:=J (sM.G O1.out b2);cases same with
 |false=>obtain⟨u1,u2⟩:=NC.out I;have U1:=J u1;have U2:=J u2;clear u1 u2 NC SF2 SL2;exact nP
 |true=>have U1:=J (SL2.out I);have U2:=SF2;have B2':=B1'.G b2 B1'.lt;have f1:=B2'.rD 1 dw;have g1:=BX3.rD 1 I;clear NC SL2 d0 d1 d2 q1 q2 b2 BX2 O1 H1 K1 B1' DS;exact nP
def JH(gt gc:Nat)(t:Option Int)(w:World)(e:Ending)(w':World):Prop:=e= .returned (.tuple #[])/\∃B u,w.grownBy B (some gt)/\B.grownBy w' (some gc)/\N B gc 4 [.bool u]/\N w' gt 3 [.int .i64 (t.getD 0)]/\N w' gc 4 [.bool t.isSome]
theorem XI(n:Int)(gt gc:Nat)(t:Option Int)(w:World)(U:N w gt 3 [.int .i64 (t.getD 0)])(F:N w gc 4 [.bool t.isSome])(hl:gt≠gc):
  Calls prog 118 #[.int .i64 n,.pointer (some ⟨gc,0,none⟩),.pointer (some ⟨gt,0,none⟩)] w (JH gt gc (xw t n) w):=by
 have f1:=U.frozen 0;have f2:=F.frozen 0;have SET:Hid (∀u:Option Int,u=some n->JH gt gc u w (.returned (.tuple #[])) ((w.setCell ⟨gt,0,none⟩ (.int .i64 n)).setCell ⟨gc,0,none⟩ (.bool true))):=J (fun u hu=>by
  subst hu;exact⟨I,_,t.isSome,sd (World.grownBy.refl _ _) 0 _,sd (World.grownBy.refl _ _) 0 _,F.wZ (p:=⟨gt,0,none⟩) (Ne.symm hl) _,(U.set 0 _).wZ (p:=⟨gc,0,none⟩) hl _,(F.wZ (p:=⟨gt,0,none⟩) (Ne.symm hl) _).set 0 _⟩)
 have awQ:Hid (JH gt gc t w (.returned (.tuple #[])) w):=J ⟨I,w,t.isSome,World.grownBy.refl _ _,World.grownBy.refl _ _,F,U,F⟩;cases t with
 |none=>have c1:=U.rD 0 (u:=.int .i64 0) I;have c2:=F.rD 0 (u:=.bool false) I;have S:=J (SET.out (xw none n) I);exact qk
 |some m=>
  have c1:=U.rD 0 (u:=.int .i64 m) I;have c2:=F.rD 0 (u:=.bool true) I;by_cases aA:n<m
  ·have S:=J (SET.out (xw (some m) n) (if_pos aA));have h1:decide (n<m)=true:=jX;exact qk
  ·have e:xw (some m) n=some m:=if_neg aA;rw[e];have h1:decide (n<m)=false:=jX;clear U F SET e;go_enter func118,ntmps118;go_wp2_with fail;go_end0;exact awQ.out
def Om(o:Except Int Fnd)(w:World)(e:Ending)(w':World):Prop:=match o with
 | .ok f=>∃An cn A c,e= .returned (.tuple #[.agg #[.slice An f.name.length cn,.slice A f.ag7.length c,.int .i64 (f.ttl.getD 0),.int .i64 f.ani],.int .i64 0])/\tw w' (.slice An f.name.length cn) f.name/\sM w' 0 (.slice A f.ag7.length c) f.ag7/\ao w w'
 | .error x=>∃An nn cn A n c a b,e= .returned (.tuple #[.agg #[.slice An nn cn,.slice A n c,.int .i64 a,.int .i64 b],.int .i64 x])/\ao w w'
theorem MC:(prog.info? 197).map (·.size)=some 4:=by kernel_rfl
theorem Bo(q:Qn)(l:List RR)(f k:Nat)(n:List (List UInt8))(t:Option Int):uO q l f k n t=match Hi l n q.Q q.cl with
  |r::rs=>.ok ⟨n,r::rs,(r::rs).foldl (fun t r=>xw t r.ttl) t,k⟩
  |[]=>match Hi l n 5 q.cl with
   |[]=>.error 11
   |r::_=>match f with
    |0=>.error 15
    |f+1=>uO q l f (k+1) r.tg (xw t r.ttl):=by
 conv=>lhs;unfold uO
 all_goals rfl
theorem JI(q:Qn)(A Al:Option Addr)(c cA:Nat)(l:List RR)(w:World)(hN:wA w A c q.name)(hn:q.name.length<=100000)(hL:sM w 0 (.slice Al l.length cA) l)(E:l.length<=65535):
  Calls prog 112 #[.agg #[.slice A q.name.length c,.int .i64 q.Q,.int .i64 q.cl],.slice Al l.length cA] w (Om (uO q l 16 0 q.name none) w):=by
 obtain⟨ahk,hF⟩:=aq (uO q l 16 0 q.name none);rw[hF.out];have LK:=J (fun(An:Option Addr) (cn:Nat) (n:List (List UInt8)) (W:World) (Z:ao w W) (h:wA w An cn n)=>aaR (.slice A q.name.length c) q.Q q.cl An Al cn cA n l W (h.G Z) (hL.G Z) E);have LE:=J (fun n gt gc t W U F h3=>XI n gt gc t W U F h3);obtain⟨fz,hfz⟩:∃fz:List Value,fz=[.slice none 0 0,.slice none 0 0,.int .i64 0,.int .i64 0]:=gh;obtain⟨hk,hX⟩:∃hk,(((w.alloc (.cells #[.slice A q.name.length c,.int .i64 q.Q,.int .i64 q.cl] 160)).alloc (.cells #[.slice none 0 0,.slice none 0 0,.int .i64 0,.int .i64 0] 197)).alloc (.cells #[.int .i64 0] 3)).alloc (.cells #[.bool false] 4)=hk:=gh;have HX:ao w hk:=by rw[<-hX];exact((((Below.refl _ _).alloc (Nat.le_refl _) _).alloc ar _).alloc aB _).alloc aB _
 have X1:N hk w.heap.size 160 [.slice A q.name.length c,.int .i64 q.Q,.int .i64 q.cl]:=by rw[<-hX];exact(((N.new w _ _).alloc _).alloc _).alloc _
 have X2:N hk (w.heap.size+1) 197 fz:=by rw[<-hX,hfz];exact((N.uE _ _ _ _ ar).alloc _).alloc _
 have X3:N hk (w.heap.size+1+1) 3 [.int .i64 ((none:Option Int).getD 0)]:=jV;have X4:N hk (w.heap.size+1+1+1) 4 [.bool (none:Option Int).isSome]:=kF;have hX':=J hX;clear hX;go_enter func112,ntmps112;go_wp2_with fail;rw[hX'.out];have F:w.heap.size<=w.heap.size+1:=Y;have h3:w.heap.size<=w.heap.size+1+1:=Y;have h4:w.heap.size<=w.heap.size+1+1+1:=Y;have n34:w.heap.size+1+1≠w.heap.size+1+1+1:=Y;have n13:w.heap.size≠w.heap.size+1+1:=Y;have n14:w.heap.size≠w.heap.size+1+1+1:=Y;have n23:w.heap.size+1≠w.heap.size+1+1:=Y;have n24:w.heap.size+1≠w.heap.size+1+1+1:=Y;clear hX';generalize w.heap.size+1+1+1=gc at*;generalize w.heap.size+1+1=gt at*;generalize w.heap.size+1=g2 at*;have hfl:fz.length=4:=by rw[hfz];rfl
 clear hfz;go_loopw[6,10] (fun nv kv wr=>∃(k:Nat) (n:List (List UInt8)) (An:Option Addr) (cn:Nat) (t:Option Int),nv= .slice An n.length cn/\kv= .int .i64 k/\k<=16/\wA w An cn n/\n.length<=100000/\Hid (uO q l (16-k) k n t=ahk)/\N wr gt 3 [.int .i64 (t.getD 0)]/\N wr gc 4 [.bool t.isSome]/\N wr w.heap.size 160 [.slice A q.name.length c,.int .i64 q.Q,.int .i64 q.cl]/\N wr g2 197 fz/\ao w wr) (fun _ kv _=>17-(intOf kv).toNat)
 case atStart=>exact⟨0,q.name,A,c,none,I,I,Y,hN,hn,hF,X3,X4,X1,X2,HX⟩
 clear X1 X2 X3 X4 HX hN hn;obtain⟨k,n,An,cn,t,rfl,rfl,O,hNm,hnl,HF,B3,B4,B1,B2,hB⟩:=hrel;have LKn:=J (LK.out An cn n wr hB hNm);generalize hQ:[Value.slice A q.name.length c,.int .i64 q.Q,.int .i64 q.cl]=Qc at*;have hQl:Qc.length=3:=by rw[<-hQ];rfl
 rw[Bo]at HF;have HLK:=J (Rj q.Q q.cl n l 0);obtain⟨li,hli⟩:∃li,wi q.Q q.cl n l 0 (-1)=li:=gh;rw[hli]at LKn HLK;clear hli hQ LK;go_wp2_with(refine rF (.load 160 (.tmp 2)) I ?_;go_must(refine rG I _ _ I w.heap.size 0 I B1 3 Y _ underlying160 I xS Qc (uH Y) ?_));refine LKn.out.mono ?_;rintro _ B ⟨Ar,cr,rfl,hR,b1⟩;have E1:=B1.G b1 B1.lt;have E2:=B2.G b1 B2.lt;have E3:=B3.G b1 B3.lt;have E4:=B4.G b1 B4.lt;have H1:=rC hB hB.size b1;have HR:Hid (sM B 0 (.slice Ar (Hi l n q.Q q.cl).length cr) (Hi l n q.Q q.cl)):=J (rJ.zero hR);clear b1 B1 B2 B3 B4 hB LKn hR;obtain⟨rs,hrs⟩:=aq (Hi l n q.Q q.cl);rw[hrs.out]at HF HR⊢;cases rs with
 |cons r0 rs=>
  have aid:0<(r0::rs).length:=ar;have HF2:Hid (ahk= .ok ⟨n,r0::rs,(r0::rs).foldl (fun t r=>xw t r.ttl) t,k⟩):=J (by rw[<-HF.out]);have hrl:(r0::rs).length<=65535:=by rw[<-hrs.out];exact Nat.le_trans (List.length_filter_le _ _) E
  clear HF HLK hrs;generalize r0::rs=R at*;have aqd:(0:Int)<R.length:=Y;go_wp2_with fail;obtain⟨wo,hwo⟩:∃wo:World,B=wo:=gh;subst hwo;go_loopw[32] (fun iv wx=>∃(j:Nat) (u:Option Int),j<=R.length/\iv= .int .i64 j/\Hid ((R.take j).foldl (fun t r=>xw t r.ttl) t=u)/\N wx gt 3 [.int .i64 (u.getD 0)]/\N wx gc 4 [.bool u.isSome]/\N wx g2 197 fz/\ao w wx/\Hid (sM wx 0 (.slice Ar R.length cr) R)) (fun iv _=>R.length-(intOf iv).toNat)
  case atStart=>exact⟨0,t,Nat.zero_le _,I,J I,E3,E4,E2,H1,HR⟩
  clear E1 E2 E3 E4 H1 HR;obtain⟨j,u,hj,rfl,HU,D3,D4,D2,hB,HR⟩:=hrel;by_cases aA:j<R.length
  case pos=>
   have h1:(j:Int)<R.length:=Y;obtain⟨gs,hA,hgs,hr⟩:=rJ.rU (fun _ _ h=>h.len) HR.out aid;obtain⟨cx,hcx,hce⟩:=hr j aA;rw[Nat.zero_add]at hcx;have hcl:=hce.len;have w1:=hce.one;have e3:cx[3]?=some (.int .i64 R[j].ttl):=by obtain⟨vn,vt,vm,hcs,_⟩:=hce;rw[hcs];rfl
   have HU2:Hid ((R.take (j+1)).foldl (fun t r=>xw t r.ttl) t=xw u R[j].ttl):=J (by rw[List.take_succ_eq_append_getElem aA,List.foldl_append,HU.out];rfl);subst hA;have hrz:vM.length=33:=kQ;have W1:Below wr.heap.size wr (wr.alloc (.cells vM.toArray 201)):=fZ;clear hce hr HU;generalize R[j].ttl=tl at*;go_wp2_with(first
    |(refine rF (.load 201 (.tmp 34)) rfl ?_;go_must(refine sr rfl 201 (.tmp 34) rfl gs (j*33) rfl cx hcx _ underlying201 rfl du ?_))
    |(refine rF (.store 201 (.tmp 14) (.tmp 35)) rfl (ab rfl wr.heap.size 0 cx (N.new wr 201 vM) Y du w1 ?_)))
   intro w3 B5 g5 sw;clear sw;have B5':=tH B5 Y;have K1:=rE W1 g5 W1.size (Nat.le_refl _);have d3:=B5'.rD 3 e3;replace D2:=D2.G K1 D2.lt;replace D3:=D3.G K1 D3.lt;replace D4:=D4.G K1 D4.lt;replace HR:=J (sM.G HR.out K1);replace hB:=rC hB hB.size K1;clear B5 B5' g5 W1 K1 hcx e3;go_wp2_with fail;refine(LE.out _ _ _ _ _ D3 D4 n34).mono ?_;rintro _ w5 ⟨rfl,w4,u4,g4,g5,C4,F3,F4⟩;have G2:=(D2.grown g4 (by simp;exact n23)).grown g5 (by simp;exact n24);have HB5:=rE (rE hB g4 hB.size h3) g5 (Nat.le_trans hB.size g4.size) h4;have HR5:=J ((sM.sD HR.out g4 D3 K K).sD g5 C4 K K);clear g4 g5 C4 D2 D3 D4 HR hB d3;go_wp2_with fail;go_roundw
   case rel=>exact⟨j+1,xw u tl,Y,fQ,HU2,F3,F4,G2,HB5,HR5⟩
   case measure=>simp[intOf];omega
  case neg=>
   have h1:¬(j:Int)<R.length:=Y;rw[List.take_of_length_le Y]at HU;have HF3:Hid (ahk= .ok ⟨n,R,u,k⟩):=J (by rw[HF2.out,HU.out]);have CL:=J (fun W Z=>yn An cn n W (hNm.G Z) hnl);have RB:Hid (∀(Ac:Option Addr) (cc:Nat) (W:World),(Instr.build 197 #[(0,.slice Ac n.length cc),(1,.slice Ar R.length cr),(2,.int .i64 (u.getD 0)),(3,.int .i64 k)]).run prog W= .ok (.agg [Value.slice Ac n.length cc,.slice Ar R.length cr,.int .i64 (u.getD 0),.int .i64 k].toArray) W):=J (fun Ac cc W=>by kernel_rfl);clear HF2 HU D4 aid aqd LE;obtain⟨uv,huv⟩:=aq (u.getD 0);rw[huv.out]at D3 RB;go_wp2_with fail;refine wp_region_held_drew (S:=fun V=>N V gt 3 [.int .i64 uv]) (by kernel_rfl) D3.drew (fun hS=>?_);have HD:Below wr.heap.size wr wr.drew:=ix;refine rS hS 4 [0,2,3,4] I (by kernel_rfl) (fun _ _ _ _ _ h=>h) I I ?_;repeat(refine ak _ ?_;simp only[X])
   (refine aj _ I I (fun V hV=>(rX 3 (.tmp 7) ⟨gt,0,none⟩ I I (rQ underlying3 I (hV.rD 0 I)))) ?_;simp only[X])
   repeat(refine ak _ ?_;simp only[X])
   simp only[sS];refine su 1 (some 42) 95 #[.slice An n.length cn] (by kernel_rfl) I I (by kernel_rfl) bc (CL.out _ (rC hB hB.size HD)) ?_;rintro _ w6 ⟨Ac,cc,rfl,o6,b6⟩;have hS:=hS.G b6 hS.lt;have HD:=rC HD HD.size b6;refine⟨_,I,hS,?_⟩;simp only[X];refine rS hS 1 [5] I (by kernel_rfl) (fun _ _ _ _ _ h=>h) I I ?_
   (refine aj (.agg [Value.slice Ac n.length cc,.slice Ar R.length cr,.int .i64 uv,.int .i64 k].toArray) I I (fun V hV=>(wm 197 _ I #[(0,.slice Ac n.length cc),(1,.slice Ar R.length cr),(2,.int .i64 uv),(3,.int .i64 k)] (by kernel_rfl) (RB.out Ac cc V))) ?_;simp only[X])
   simp only[sS];refine wL 6 none 197 (.tmp 4) (.tmp 46) (by kernel_rfl) I I I (by kernel_rfl) g2 0 I [Value.slice Ac n.length cc,.slice Ar R.length cr,.int .i64 uv,.int .i64 k] I (D2.G HD D2.lt) dx MC aO ?_;intro w7 B7 g7 s7;rw[List.take_zero,List.nil_append,Nat.zero_add]at B7;have B7':=tH B7 (Nat.le_of_eq hfl);have T7:tw w7 (.slice Ac n.length cc) n:=(rZ.sD g7 (D2.G HD D2.lt) K) _ _ (xi o6);have R7:=sM.sD (sM.G HR.out HD) g7 (D2.G HD D2.lt) K K;have H7:=rE (rC hB hB.size HD) g7 (Nat.le_trans hB.size HD.size) F;have hS:=hS.grown g7 aB;refine⟨hS,?_⟩;simp only[X];refine rS hS 1 [7] I (by kernel_rfl) (fun _ _ _ _ _ h=>h) I I ?_;repeat(refine ak _ ?_;simp only[X])
   simp only[sS];refine wpAnyH_done (by kernel_rfl) ?_ _;go_wp2_with fail;refine tj I g2 I B7' _ underlying197 I MC I (.int .i64 0) I ?_;rw[HF3.out];exact⟨Ac,cc,Ar,cr,by rw[huv.out],T7,R7,H7⟩
 |nil=>
  have HK:=HLK.out hrs.out;clear HLK hrs HR;have hz:decide ((0:Int)<([]:List RR).length)=false:=rfl;cases h5:Hi l n 5 q.cl with
  |nil=>
   rw[h5]at HK HF;have HF3:Hid (ahk= .error 11):=J (by rw[<-HF.out]);subst HK;have CL:=J (fun W Z=>yn An cn n W (hNm.G Z) hnl);have RB:Hid (∀(Ac:Option Addr) (cc:Nat) (W:World),(Instr.build 197 #[(0,.slice Ac n.length cc),(3,.int .i64 k)]).run prog W= .ok (.agg [Value.slice Ac n.length cc,.slice none 0 0,.int .i64 0,.int .i64 k].toArray) W):=J (fun Ac cc W=>by kernel_rfl);clear HF h5 LE;go_wp2_with fail;refine(CL.out _ H1).mono ?_;rintro _ w6 ⟨Ac,cc,rfl,o6,b6⟩;have E2':=E2.G b6 E2.lt;have H6:=rC H1 H1.size b6;clear b6 E2 E3 E4 E1 H1;go_wp2_with(first
    |(refine rF (.build 197 #[(0,.tmp 50),(3,.tmp 51)]) rfl ?_;go_must(refine sy rfl 197 _ rfl #[(0,.slice Ac n.length cc),(3,.int .i64 k)] cY (RB.out Ac cc _) ?_))
    |(refine rF (.store 197 (.tmp 4) (.tmp 52)) rfl (ab rfl g2 0 [Value.slice Ac n.length cc,.slice none 0 0,.int .i64 0,.int .i64 k] E2' dx MC aO ?_)))
   intro w7 B7 g7 sw;clear sw;have B7':=tH (L:=[Value.slice Ac n.length cc,.slice none 0 0,.int .i64 0,.int .i64 k]) B7 (Nat.le_of_eq hfl);have H7:=rE H6 g7 H6.size F;go_wp2_with fail;refine tj I g2 I B7' _ underlying197 I MC I (.int .i64 11) I ?_;exact qY
  |cons r tail=>
   rw[h5]at HK HF;obtain⟨j,hj,hr⟩:=HK;rw[Nat.zero_add]at hj;subst hj;obtain⟨hjl,hjr⟩:=List.getElem?_eq_some_iff.1 hr;have hj0:decide ((j:Int)<0)=false:=ar;have akQ:(j:Int)<l.length:=Y;obtain⟨gs,hA,hgs,ag8⟩:=rJ.rU (fun _ _ h=>h.len) hL Y;obtain⟨cx,hcx,hce⟩:=ag8 j hjl;rw[hjr]at hce;subst hA;rw[Nat.zero_add]at hcx;replace hcx:=rN hcx H1 hgs;obtain⟨vn,vt,vm,hcs,hwf,hnm,htg,hml,_⟩:=hce;obtain⟨At,ct,hv,hNt⟩:=htg.form;subst hv;have c3:=hcx 3 (.int .i64 r.ttl) dh;have c22:=hcx 22 (.slice At r.tg.length ct) (by rw[hcs];exact DR hwf);have htl:r.tg.length<=100000:=by obtain⟨h6,h7⟩:=ud htg.2;have:=yV r.tg;omega
   clear hcs hwf hnm htg hml ag8 hcx hr hjr h5;by_cases avd:k=16
   case pos=>
    have hk':((k:Int)==16)=true:=aB;have HF3:Hid (ahk= .error 15):=J (by rw[<-HF.out];subst avd;rfl);have RB:Hid (∀(W:World),(Instr.build 197 #[]).run prog W= .ok (.agg [Value.slice none 0 0,.slice none 0 0,.int .i64 0,.int .i64 0].toArray) W):=J (fun W=>by kernel_rfl);clear HF LE avd;go_wp2_with(first
     |(refine rF (.build 197 #[]) rfl ?_;go_must(refine sy rfl 197 _ rfl #[] cY (RB.out _) ?_))
     |(refine rF (.store 197 (.tmp 4) (.tmp 55)) rfl (ab rfl g2 0 [Value.slice none 0 0,.slice none 0 0,.int .i64 0,.int .i64 0] E2 dx MC aO ?_)))
    intro w7 B7 g7 sw;clear sw;have B7':=tH (L:=[Value.slice none 0 0,.slice none 0 0,.int .i64 0,.int .i64 0]) B7 (Nat.le_of_eq hfl);have H7:=rE H1 g7 H1.size F;go_wp2_with fail;refine tj I g2 I B7' _ underlying197 I MC I (.int .i64 15) I ?_;exact qY
   case neg=>
    have hk':((k:Int)==16)=false:=aB;have HF3:Hid (uO q l (16-(k+1)) (k+1) r.tg (xw t r.ttl)=ahk):=J (by
     rw[<-HF.out,show 16-k=(16-(k+1))+1 by omega])
    clear HF;generalize r.ttl=tl at*;go_wp2_with fail;refine(LE.out _ _ _ _ _ E3 E4 n34).mono ?_;rintro _ w5 ⟨rfl,w4,u4,g4,g5,C4,F3,F4⟩;have G1:=(E1.grown g4 (by simp;exact n13)).grown g5 (by simp;exact n14);have G2:=(E2.grown g4 (by simp;exact n23)).grown g5 (by simp;exact n24);have HB5:=rE (rE H1 g4 H1.size h3) g5 (Nat.le_trans H1.size g4.size) h4;have aNt:w5.cell? ⟨gs,j*33+22,none⟩=some (.slice At r.tg.length ct):=by rw[<-c22,HB5.cell (p:=⟨gs,_,none⟩) hgs,H1.cell (p:=⟨gs,_,none⟩) hgs]
    clear g4 g5 C4 E1 E2 E3 E4 H1 c3 c22;go_wp2_with fail;go_roundw
    case rel=>exact⟨k+1,r.tg,At,ct,xw t tl,I,fQ,Y,hNt,htl,HF3,F3,F4,G1,G2,HB5⟩
    case measure=>simp[intOf];omega
def wR(h:Hd)(conn afh:Bool):Int:=
 if h.tc=true/\conn=false then 2 else if h.rc=0\/h.rc=3 then 1 else if h.rc=2 then 4 else if afh=true/\(h.rc=1\/h.rc=4)then 3 else 5
def vU(q:Qn)(m:tq):Int:=match uO q m.an 16 0 q.name none with
 | .ok _=>1
 | .error e=>if e=15 then 5 else if m.hd.rc=3 then 3 else 2
theorem ac3(h:Hd)(conn afh:Bool)(w:World):Calls prog 159 #[.agg h.uY.toArray,.bool conn,.bool afh] w (rW (.int .i64 (wR h conn afh)) w):=by
 have HX:Below w.heap.size w (w.alloc (.cells h.uY.toArray 166)):=fZ;have BX:=N.new w 166 h.uY;have c4:=BX.rD 4 (u:=.bool h.tc) I;have c9:=BX.rD 9 (u:=.int .i64 h.rc) I;have al:wR h conn afh=if h.tc=true/\conn=false then 2 else if h.rc=0\/h.rc=3 then 1 else if h.rc=2 then 4 else if afh=true/\(h.rc=1\/h.rc=4)then 3 else 5:=rfl
 have HK:=J al;clear al BX;generalize h.uY=L,h.tc=tc,h.rc=rc at*;by_cases U:tc=true/\conn=false
 ·obtain⟨rfl,rfl⟩:=U;have h2:Hid (wR h false afh=2):=J (by rw[HK.out];simp);clear HK;go_enter func159,ntmps159;go_wp2_with fail;go_ret;exact rW.mk dz HX
 rw[if_neg U]at HK;have HT:tc=false\/tc=true/\conn=true:=by cases tc<;>cases conn<;>simp_all
 obtain⟨V,hV⟩:=aq (wR h conn afh);have HV:Hid ((if rc=0\/rc=3 then(1:Int)else if rc=2 then 4 else if afh=true/\(rc=1\/rc=4)then 3 else 5)=V):=J (by rw[<-HK.out,hV.out]);rw[hV.out];clear HK hV U;have ag3:∀k:Int,rc≠k->(rc==k)=false:=fun k h=>by simpa using h
 by_cases r0:rc=0
 case pos=>subst r0;have h2:Hid (V=1):=J dA;clear HV ag3;exact mR
 by_cases r3:rc=3
 case pos=>subst r3;have h2:Hid (V=1):=J dA;clear HV ag3 r0;exact mR
 by_cases r2:rc=2
 case pos=>subst r2;have h2:Hid (V=4):=J dA;clear HV ag3 r0 r3;exact mR
 by_cases r1:rc=1
 case pos=>
  subst r1;cases afh with
  |true=>have h2:Hid (V=3):=J dA;clear HV ag3 r0 r3 r2;exact mR
  |false=>have h2:Hid (V=5):=J dA;clear HV ag3 r0 r3 r2;exact mR
 by_cases r4:rc=4
 case pos=>
  subst r4;cases afh with
  |true=>have h2:Hid (V=3):=J dA;clear HV ag3 r0 r3 r2 r1;exact mR
  |false=>have h2:Hid (V=5):=J dA;clear HV ag3 r0 r3 r2 r1;exact mR
 have h2:Hid (V=5):=J (by rw[<-HV.out,if_neg Y,if_neg r2,if_neg (fun h=>by omega)]);have q0:=ag3 0 r0;have q1:=ag3 1 r1;have q2:=ag3 2 r2;have q3:=ag3 3 r3;have q4:=ag3 4 r4;clear HV ag3 r0 r1 r2 r3 r4;exact mR
structure Xc where
 tmo:Int
 vc:Bool
 ed:Bool
 q:Qn
 tr:List sg
 k:Nat
 lg:Nat
 left:Int
 r6:Nat
 y:Qy
 d:Dl
 hard:Bool
 done:Bool
 vd:Int
 xZ:tq
abbrev XR:=Xc×Lt×List Ou
def Xc.vI(x:Xc):Bool:=decide (x.lg=0)&&x.ed
def vV(x:Xc)(L:Lt):Qy:=⟨x.tr.getD x.k sg.zero,1024+(wW L 64512).1,(wW (wW L 64512).2 65536).1,x.q⟩
def KR(L:Lt):Lt:=(wW (wW L 64512).2 65536).2
def wX(x:Xc)(L:Lt)(lg:Nat):XR:=
 if lg=2 then({x with y:=vV x L,lg:=2,left:=x.tmo,r6:=x.r6+1,d:=(yM (vV x L)).1},KR L,(yM (vV x L)).2)
 else({x with y:=vV x L,lg:=lg,left:=x.tmo,r6:=x.r6+1},KR L,[⟨1,(vV x L).sv,(vV x L).port,(tM (ug x.q (vV x L).id (decide (lg=0)&&x.ed)) false).1⟩])
def Bp(x:Xc)(L:Lt):XR:=if x.k<x.tr.length then wX x L (if x.vc then 2 else 0)else({x with done:=true,vd:=if x.hard then 5 else 4,xZ:=tq.zero},L,[])
def vD(x:Xc)(L:Lt):XR:=Bp {x with k:=x.k+1} L
def xY(x:Xc)(L:Lt)(m:tq):XR:=
 if wR m.hd (decide (x.lg=2)) x.vI=1 then({x with done:=true,vd:=vU x.q m,xZ:=m},L,[])
 else if wR m.hd (decide (x.lg=2)) x.vI=2 then wX x L 2
 else if wR m.hd (decide (x.lg=2)) x.vI=3 then wX x L 1
 else if wR m.hd (decide (x.lg=2)) x.vI=5 then vD {x with hard:=true} L
 else vD x L
def JJ(o:List Ou)(r:XR):XR:=(r.1,r.2.1,o++r.2.2)
def sK(x:Xc)(L:Lt)(e:Ev):XR:=
 if x.done then(x,L,[])
 else if x.lg=2 then
  if e.kind=1 then(if x.left<=1 then JJ (wg x.d).2 (vD {x with left:=x.left-1,d:=(wg x.d).1} L)else({x with left:=x.left-1},L,[]))
  else if(te x.d e).1.st=1 then JJ (te x.d e).2 (xY {x with d:=(te x.d e).1} L (te x.d e).1.xZ)
  else if(te x.d e).1.st=2 then JJ (te x.d e).2 (vD {x with d:=(te x.d e).1} L)
  else({x with d:=(te x.d e).1},L,(te x.d e).2)
 else if e.kind=1 then(if x.left<=1 then vD {x with left:=x.left-1} L else({x with left:=x.left-1},L,[]))
 else if(EZ x.y e).2 then xY x L (EZ x.y e).1 else(x,L,[])
def wY(tmo:Int)(vc ed:Bool)(q:Qn)(tr:List sg):Xc:=⟨tmo,vc,ed,q,tr,0,0,0,0,⟨sg.zero,0,0,⟨[],0,0⟩⟩,⟨⟨sg.zero,0,0,⟨[],0,0⟩⟩,[],2,false,[],tq.zero⟩,false,false,0,tq.zero⟩
def Dv(tmo:Int)(vc ed:Bool)(q:Qn)(tr:List sg)(L:Lt):XR:=
 if(tM (ug q 0 ed) false).2≠0 then({wY tmo vc ed q tr with done:=true,vd:=3},L,[])else Bp (wY tmo vc ed q tr) L
structure Xc.st (x:Xc):Prop where
 ips:∀a∈x.tr,a.ip.length=16
 to1:1<=x.tmo
 to2:x.tmo<=30
 trl:x.tr.length<=1000
 err:∀id e,0<=id->id<=65535->(tM (ug x.q id e) false).2=0
structure Xc.ok (x:Xc):Prop where
 st:x.done=false->x.st
 go:x.done=false->x.k<x.tr.length/\1<=x.left/\x.left<=x.tmo/\x.y.q=x.q/\x.y.sv=x.tr.getD x.k sg.zero/\(x.lg=2->x.d.st=0/\x.d.y=x.y/\x.d.ok)
def Dw(D:Option Nat):Value:=.pointer (D.map fun g=>⟨g,0,none⟩)
def xI(T:List Value)(vn:Value)(q:Qn)(vt:Value)(gl:Nat)(k:Nat)(hs:Value)(qs:List Value)(eb:Bool)(dp:Option Nat)(left:Int)(r6:Nat)(hard done:Bool)(vd:Int)(ds:List Value):List Value:=
 T++(qC vn q++(vt:: .pointer (some ⟨gl,0,none⟩):: .int .i64 k::hs::(qs++(.bool eb::Dw dp:: .int .i64 left:: .int .i64 r6:: .bool hard:: .bool done:: .int .i64 vd::ds))))
section
variable {T qs ds:List Value} {vn vt hs:Value} {q:Qn} {gl k:Nat} {eb hard done:Bool} {dp:Option Nat} {left vd:Int} {r6:Nat}
theorem Fe(hT:T.length=10)(hq:qs.length=23)(i:Nat)(hi:i<10):(xI T vn q vt gl k hs qs eb dp left r6 hard done vd ds)[i]?=T[i]?:=by
 unfold xI;rw[List.getElem?_append_left Y]
theorem aeR(hT:T.length=10)(hq:qs.length=23):((xI T vn q vt gl k hs qs eb dp left r6 hard done vd ds).drop 10).take 3=qC vn q:=by
 unfold xI;rw[show(10:Nat)=T.length by omega,List.drop_left];exact List.take_left' I
theorem CO(hT:T.length=10)(hq:qs.length=23)(i:Nat)(hi:i<4):(xI T vn q vt gl k hs qs eb dp left r6 hard done vd ds)[13+i]?=[vt,.pointer (some ⟨gl,0,none⟩),.int .i64 k,hs][i]?:=by
 unfold xI;rw[List.getElem?_append_right Y,hT,List.getElem?_append_right (by simp[qC];omega),show 13+i-10-(qC vn q).length=i by simp[qC];omega];match i,hi with
 |0,_=>rfl
 |1,_=>rfl
 |2,_=>rfl
 |3,_=>rfl
theorem AQ(hT:T.length=10)(hq:qs.length=23):(xI T vn q vt gl k hs qs eb dp left r6 hard done vd ds).drop 17=qs++(.bool eb::Dw dp:: .int .i64 left:: .int .i64 r6:: .bool hard:: .bool done:: .int .i64 vd::ds):=by
 unfold xI;rw[show(17:Nat)=T.length+7 by omega,List.drop_append];rw[List.drop_of_length_le Y,List.nil_append];simp[qC]
theorem af1(hT:T.length=10)(hq:qs.length=23):((xI T vn q vt gl k hs qs eb dp left r6 hard done vd ds).drop 17).take 23=qs:=by
 rw[AQ hT hq];exact List.take_left' hq
theorem Bt(hT:T.length=10)(hq:qs.length=23)(i:Nat)(hi:i<7):(xI T vn q vt gl k hs qs eb dp left r6 hard done vd ds)[40+i]?=[Value.bool eb,Dw dp,.int .i64 left,.int .i64 r6,.bool hard,.bool done,.int .i64 vd][i]?:=by
 have e:(xI T vn q vt gl k hs qs eb dp left r6 hard done vd ds)[40+i]?=((xI T vn q vt gl k hs qs eb dp left r6 hard done vd ds).drop 17)[23+i]?:=by rw[List.getElem?_drop];congr 1;omega
 rw[e,AQ hT hq,List.getElem?_append_right Y,hq,Nat.add_sub_cancel_left];match i,hi with
 |0,_=>rfl
 |1,_=>rfl
 |2,_=>rfl
 |3,_=>rfl
 |4,_=>rfl
 |5,_=>rfl
 |6,_=>rfl
theorem aeS(hT:T.length=10)(hq:qs.length=23):((xI T vn q vt gl k hs qs eb dp left r6 hard done vd ds).drop 46).take 15= .int .i64 vd::ds.take 14:=by
 have e:(xI T vn q vt gl k hs qs eb dp left r6 hard done vd ds).drop 46= .int .i64 vd::ds:=by rw[show(46:Nat)=17+29 from I,<-List.drop_drop,AQ hT hq,show(29:Nat)=qs.length+6 by omega,List.drop_append];simp
 rw[e];rfl
theorem yO(hT:T.length=10)(hq:qs.length=23):(xI T vn q vt gl k hs qs eb dp left r6 hard done vd ds).length=47+ds.length:=by
 simp[xI,hT,hq,qC];omega
theorem ac4(hT:T.length=10)(hq:qs.length=23)(k':Nat):(xI T vn q vt gl k hs qs eb dp left r6 hard done vd ds).set 15 (.int .i64 k')=xI T vn q vt gl k' hs qs eb dp left r6 hard done vd ds:=by
 exact og
theorem JK(hT:T.length=10)(hq:qs.length=23)(h':Value):(xI T vn q vt gl k hs qs eb dp left r6 hard done vd ds).set 16 h'=xI T vn q vt gl k h' qs eb dp left r6 hard done vd ds:=by
 exact og
theorem aaS(hT:T.length=10)(hq:qs.length=23)(b:Bool):(xI T vn q vt gl k hs qs eb dp left r6 hard done vd ds).set 40 (.bool b)=xI T vn q vt gl k hs qs b dp left r6 hard done vd ds:=by
 exact og
theorem JM(hT:T.length=10)(hq:qs.length=23)(d:Option Nat):(xI T vn q vt gl k hs qs eb dp left r6 hard done vd ds).set 41 (Dw d)=xI T vn q vt gl k hs qs eb d left r6 hard done vd ds:=by
 exact og
theorem JN(hT:T.length=10)(hq:qs.length=23)(n:Int):(xI T vn q vt gl k hs qs eb dp left r6 hard done vd ds).set 42 (.int .i64 n)=xI T vn q vt gl k hs qs eb dp n r6 hard done vd ds:=by
 exact og
theorem Ut(hT:T.length=10)(hq:qs.length=23)(n:Nat):(xI T vn q vt gl k hs qs eb dp left r6 hard done vd ds).set 43 (.int .i64 n)=xI T vn q vt gl k hs qs eb dp left n hard done vd ds:=by
 exact og
theorem Uu(hT:T.length=10)(hq:qs.length=23)(b:Bool):(xI T vn q vt gl k hs qs eb dp left r6 hard done vd ds).set 44 (.bool b)=xI T vn q vt gl k hs qs eb dp left r6 b done vd ds:=by
 exact og
theorem Uv(hT:T.length=10)(hq:qs.length=23)(b:Bool):(xI T vn q vt gl k hs qs eb dp left r6 hard done vd ds).set 45 (.bool b)=xI T vn q vt gl k hs qs eb dp left r6 hard b vd ds:=by
 exact og
theorem ME(hT:T.length=10)(hq:qs.length=23):(xI T vn q vt gl k hs qs eb dp left r6 hard done vd ds).take 17=T++(qC vn q++[vt,.pointer (some ⟨gl,0,none⟩),.int .i64 k,hs]):=by
 unfold xI;rw[show(17:Nat)=T.length+7 by omega,List.take_append,List.take_of_length_le Y];simp[qC]
theorem VI(hT:T.length=10)(hq:qs.length=23)(qs':List Value)(hq':qs'.length=23):(xI T vn q vt gl k hs qs eb dp left r6 hard done vd ds).take 17++qs'++(xI T vn q vt gl k hs qs eb dp left r6 hard done vd ds).drop (17+qs'.length)=xI T vn q vt gl k hs qs' eb dp left r6 hard done vd ds:=by
 rw[ME hT hq,hq',<-List.drop_drop,AQ hT hq,List.drop_left' hq];simp[xI]
theorem XJ(hT:T.length=10)(hq:qs.length=23)(vd':Int)(ds':List Value)(hd:ds.length=14)(hd':ds'.length=14):(xI T vn q vt gl k hs qs eb dp left r6 hard done vd ds).take 46++(.int .i64 vd'::ds')++(xI T vn q vt gl k hs qs eb dp left r6 hard done vd ds).drop (46+(.int .i64 vd'::ds':List Value).length)=xI T vn q vt gl k hs qs eb dp left r6 hard done vd' ds':=by
 rw[List.drop_of_length_le (by rw[yO hT hq];simp;omega),List.append_nil];have e:(xI T vn q vt gl k hs qs eb dp left r6 hard done vd ds).take 46=T++(qC vn q++[vt,.pointer (some ⟨gl,0,none⟩),.int .i64 k,hs])++(qs++[.bool eb,Dw dp,.int .i64 left,.int .i64 r6,.bool hard,.bool done]):=by rw[show(46:Nat)=17+29 from I,List.take_add,ME hT hq,AQ hT hq,show(29:Nat)=qs.length+6 by omega,List.take_append,List.take_of_length_le (show qs.length<=qs.length+6 by omega)];simp
 rw[e];simp[xI]
end
structure ue (w:World) (g gl:Nat) (vn:Value) (x:Xc) (hs:Value) (eb:Bool) (qs:List Value) (dp:Option Nat):Prop where
 b:∃T vt ds,N w g 173 (xI T vn x.q vt gl x.k hs qs eb dp x.left x.r6 x.hard x.done x.vd ds)/\T.length=10/\T[4]?=some (.int .i64 x.tmo)/\T[7]?=some (.bool x.vc)/\T[9]?=some (.bool x.ed)/\JF w 0 vt x.tr/\sA w ds x.xZ
 nm:Mq w vn x.q.name
 ql:qs.length=23
theorem Fr.rM(h:Fr S w w'):rZ w w':=fun v n x=>h.own x bV
theorem Fr.Rl{α:Type}{Hh:Nat}{e:TypeId}{k:Nat}{R:List Value->α->Prop}{v:Value}{l:List α}(h:Fr S w w')(ho:rJ w Hh e k R v l)(he:¬KH e):rJ w' Hh e k R v l:=ho.rM (fun _ x=>h.own x he) (fun _ _ x=>x)
theorem Fr.xZ{cs:List Value}{m:tq}(h:Fr S w w')(hm:sA w cs m):sA w' cs m:=by
 obtain⟨vq,va,vu,ve,U,F,h3,h4,h5,l⟩:=hm;have hq:¬KH 160:=bV;have hr:¬KH 201:=bV;exact⟨vq,va,vu,ve,U,F.rM (fun _ x=>h.own x hq) (fun _ _ x=>x.rM h.rM),h3.rM (fun _ x=>h.own x hr) (fun _ _ x=>x.rM h.rM),h4.rM (fun _ x=>h.own x hr) (fun _ _ x=>x.rM h.rM),h5.rM (fun _ x=>h.own x hr) (fun _ _ x=>x.rM h.rM),l⟩
theorem ue.lt{x:Xc}{dp:Option Nat}(h:ue w g gl vn x hs eb qs dp):g<w.heap.size:=by obtain⟨T,vt,ds,Z,_⟩:=h.b;exact Z.lt
theorem ue.fr{x:Xc}{dp:Option Nat}(h:ue w g gl vn x hs eb qs dp)(k:Fr S w w')(hg:¬S g):ue w' g gl vn x hs eb qs dp:=by
 obtain⟨T,vt,ds,Z,U,F,h3,h4,h5,h6⟩:=h.b;exact⟨⟨T,vt,ds,k.sD Z hg,U,F,h3,h4,k.Rl h5 bV,k.xZ h6⟩,h.nm.rM k.rM,h.ql⟩
theorem ue.G{x:Xc}{dp:Option Nat}(h:ue w g gl vn x hs eb qs dp)(k:ao w w'):ue w' g gl vn x hs eb qs dp:=h.fr (S:=fun _=>False) (Fr.G k) (fun h=>h)
theorem ue.put{x x':Xc}{hs':Value}{eb':Bool}{qs':List Value}{dp dp':Option Nat}(h:ue w g gl vn x hs eb qs dp)(hg:w.grownBy w' (some g))(e1:x'.q=x.q)(e2:x'.tr=x.tr)(e3:x'.tmo=x.tmo)(e4:x'.vc=x.vc)(e5:x'.ed=x.ed)(e6:x'.xZ=x.xZ)(hq:qs'.length=23)
  (Z:∀T vt ds,T.length=10->ds.length=14->N w g 173 (xI T vn x.q vt gl x.k hs qs eb dp x.left x.r6 x.hard x.done x.vd ds)->N w' g 173 (xI T vn x.q vt gl x'.k hs' qs' eb' dp' x'.left x'.r6 x'.hard x'.done x'.vd ds)):ue w' g gl vn x' hs' eb' qs' dp':=by
 obtain⟨T,vt,ds,hb0,U,F,h3,h4,h5,h6⟩:=h.b;have fr:Fr (fun i=>i=g) w w':=Fr.grown hg hb0 (.inr (.inl I)) I;refine⟨⟨T,vt,ds,?_,U,?_,?_,?_,?_,?_⟩,?_,hq⟩
 ·rw[e1];exact Z T vt ds U h6.len hb0
 ·rw[e3];exact F
 ·rw[e4];exact h3
 ·rw[e5];exact h4
 ·rw[e2];exact fr.Rl h5 bV
 ·rw[e6];exact fr.xZ h6
 ·rw[e1];exact h.nm.rM fr.rM
def wu:List Ou->Nat
 |[]=>0
 |o::l=>(if o.kind=1\/o.kind=2 then 1 else 0)+wu l
theorem Eb:∀(a b:List Ou),wu (a++b)=wu a+wu b
 |[],b=>by simp[wu]
 |o::a,b=>by simp only[List.cons_append,wu,Eb a b];omega
def Xc.rest(x:Xc):Nat:=if x.done then 0 else(2-x.lg)+3*(x.tr.length-x.k-1)
def Xc.Di(x:Xc):Nat:=if x.done then 0 else x.left.toNat+x.tmo.toNat*x.rest
theorem Dj{x:Xc}(h:x.done=false):x.rest=(2-x.lg)+3*(x.tr.length-x.k-1):=by unfold Xc.rest;rw[h];rfl
theorem JO{x:Xc}(h:x.done=false):x.Di=x.left.toNat+x.tmo.toNat*x.rest:=by unfold Xc.Di;rw[h];rfl
theorem On{x:Xc}(h:x.done=true):x.rest=0:=by unfold Xc.rest;rw[h];rfl
theorem Ec{x:Xc}(h:x.done=true):x.Di=0:=by unfold Xc.Di;rw[h];rfl
structure yd (x:Xc) (L:Lt) (r:XR) (t n h:Nat):Prop where
 tr:r.1.tr=x.tr
 tmo:r.1.tmo=x.tmo
 q:r.1.q=x.q
 snt:r.1.r6=x.r6+wu r.2.2
 rst:wu r.2.2+r.1.rest<=n
 Di:r.1.Di<=t
 lg:r.1.lg<=2
 vd:r.1.done=true->r.1.vd≠0
 us:r.2.1.us<=L.us+2
 ds:r.2.1.ds=L.ds
 hd:r.1.d.ty.length<=h
theorem yd.mono{x:Xc}{L:Lt}{r:XR}{t n t' n' h':Nat}(e:yd x L r t n h)(ht:t<=t')(hn:n<=n')(hh:h<=h'):yd x L r t' n' h':=
 ⟨e.tr,e.tmo,e.q,e.snt,Nat.le_trans e.rst hn,Nat.le_trans e.Di ht,e.lg,e.vd,e.us,e.ds,Nat.le_trans e.hd hh⟩
theorem yd.of{x y:Xc}{L:Lt}{r:XR}{t n:Nat}(e:yd x L r t n h)(U:x.tr=y.tr)(F:x.tmo=y.tmo)(h3:x.q=y.q)(h4:x.r6=y.r6):yd y L r t n h:=
 ⟨U▸e.tr,F▸e.tmo,h3▸e.q,h4▸e.snt,e.rst,e.Di,e.lg,e.vd,e.us,e.ds,e.hd⟩
theorem aaT{x:Xc}(h:x.st)(L:Lt):Hu (vV x L)=0:=by
 obtain⟨U,F⟩:=EO (wW L 64512).2 (show(0:Int)<65536 by decide);exact h.err (wW (wW L 64512).2 65536).1 false U Y
theorem Uw(x:Xc)(L:Lt)(lg:Nat):(wX x L lg).1.done=x.done/\(wX x L lg).1.tr=x.tr/\(wX x L lg).1.k=x.k/\(wX x L lg).1.tmo=x.tmo/\(wX x L lg).1.left=x.tmo/\(wX x L lg).1.lg=lg/\(wX x L lg).1.r6=x.r6+1/\(wX x L lg).1.q=x.q/\(wX x L lg).2.1=KR L:=by
 unfold wX;split
 ·rename_i h;subst h;exact⟨I,I,I,I,I,I,I,I,I⟩
 ·exact⟨I,I,I,I,I,I,I,I,I⟩
theorem JP{x:Xc}(h:x.st)(hd:x.done=false)(L:Lt)(lg:Nat)(hlg:lg<=2):yd x L (wX x L lg) (x.tmo.toNat*(1+(2-lg)+3*(x.tr.length-x.k-1))) (1+(2-lg)+3*(x.tr.length-x.k-1)) x.d.ty.length:=by
 have e0:=aaT h L;have eN:yM (vV x L)=(⟨vV x L,rP 2 (QS (vV x L)).length++QS (vV x L),0,false,[],tq.zero⟩,[⟨2,(vV x L).sv,(vV x L).port,[]⟩]):=by unfold yM;rw[if_pos e0]
 have hm:x.tmo.toNat*(1+(2-lg)+3*(x.tr.length-x.k-1))=x.tmo.toNat+x.tmo.toNat*((2-lg)+3*(x.tr.length-x.k-1)):=by rw[Nat.add_assoc,Nat.mul_add,Nat.mul_one]
 have Z:wu (wX x L lg).2.2=1:=by
  unfold wX;split
  ·rw[eN];rfl
  ·rfl
 have hh:(wX x L lg).1.d.ty.length<=x.d.ty.length:=by
  unfold wX;split
  ·rw[eN];exact Nat.zero_le _
  ·exact Nat.le_refl _
 obtain⟨f1,f2,f3,f4,f5,f6,f7,f8,f9⟩:=Uw x L lg;have hdn:=f1.trans hd;refine⟨f2,f4,f8,by rw[f7,Z],?_,?_,by rw[f6];exact hlg,fun hh=>?_,by rw[f9];exact Nat.le_refl _,by rw[f9];rfl,hh⟩
 ·rw[Z,Dj hdn,f2,f3,f6];omega
 ·rw[JO hdn,Dj hdn,f2,f3,f4,f5,f6,hm];exact Nat.le_refl _
 ·rw[hdn]at hh;cases hh
theorem Rm{x:Xc}(h:x.st)(hd:x.done=false)(hlg:x.lg<=2)(L:Lt):yd x L (Bp x L) (x.tmo.toNat*(3*(x.tr.length-x.k))) (3*(x.tr.length-x.k)) x.d.ty.length:=by
 unfold Bp;split
 ·
  rename_i O;refine(JP h hd L _ (by split<;>omega)).mono (Nat.mul_le_mul_left _ ?_) ?_ (Nat.le_refl _)
  ·split<;>omega
  ·split<;>omega
 ·exact⟨I,I,I,I,by rw[On I];exact Nat.zero_le _,by rw[Ec I];exact Nat.zero_le _,hlg,fun _=>by show(if x.hard then(5:Int)else 4)≠0;split<;>decide,Nat.le_add_right _ _,I,Nat.le_refl _⟩
theorem AR{x:Xc}(h:x.st)(hd:x.done=false)(hlg:x.lg<=2)(L:Lt):yd x L (vD x L) (x.tmo.toNat*(3*(x.tr.length-x.k-1))) (3*(x.tr.length-x.k-1)) x.d.ty.length:=by
 have:=Rm (x:={x with k:=x.k+1}) ⟨h.ips,h.to1,h.to2,h.trl,h.err⟩ hd hlg L;refine yd.of (y:=x) (this.mono ?_ ?_ (Nat.le_refl _)) I I I I
 ·exact Nat.mul_le_mul_left _ (by show 3*(x.tr.length-(x.k+1))<=_;omega)
 ·show 3*(x.tr.length-(x.k+1))<=_;omega
theorem XL(q:Qn)(m:tq):vU q m≠0:=by
 unfold vU;split
 ·decide
 ·
  split
  ·decide
  ·split<;>decide
theorem aeT{h:Hd}{c:Bool}(hv:wR h c e=2):c=false:=by
 unfold wR at hv;split at hv
 ·rename_i h;exact h.2
 ·
  (repeat' split at hv)<;>simp at hv
theorem aeU{h:Hd}{c:Bool}(hv:wR h c e=3):e=true:=by
 unfold wR at hv;split at hv
 ·simp at hv
 ·
  split at hv
  ·simp at hv
  ·
   split at hv
   ·simp at hv
   ·
    split at hv
    ·rename_i h;exact h.1
    ·simp at hv
theorem MF{x:Xc}(h:x.st)(hd:x.done=false)(hlg:x.lg<=2)(L:Lt)(m:tq):yd x L (xY x L m) (x.tmo.toNat*x.rest) x.rest x.d.ty.length:=by
 have hr:=Dj hd;unfold xY;split
 ·exact⟨I,I,I,I,by rw[On I];exact Nat.zero_le _,by rw[Ec I];exact Nat.zero_le _,hlg,fun _=>XL _ _,Nat.le_add_right _ _,I,Nat.le_refl _⟩
 ·
  split
  ·rename_i hv;have hc:=aeT hv;have E:x.lg≠2:=iI;refine(JP h hd L 2 (Nat.le_refl _)).mono (Nat.mul_le_mul_left _ ?_) ?_ (Nat.le_refl _);all_goals omega
  ·
   split
   ·
    rename_i hv;have hc:=aeU hv;have E:x.lg=0:=by unfold Xc.vI at hc;simp at hc;exact hc.1
    refine(JP h hd L 1 Y).mono (Nat.mul_le_mul_left _ ?_) ?_ (Nat.le_refl _);all_goals omega
   ·
    split
    ·refine(yd.of (y:=x) (AR (x:={x with hard:=true}) ⟨h.ips,h.to1,h.to2,h.trl,h.err⟩ hd hlg L) I I I I).mono (Nat.mul_le_mul_left _ ?_) ?_ (Nat.le_refl _);all_goals show 3*(x.tr.length-x.k-1)<=_;omega
    ·refine(AR h hd hlg L).mono (Nat.mul_le_mul_left _ ?_) ?_ (Nat.le_refl _);all_goals omega
theorem Ed(d:Dl)(e:Ev):wu (te d e).2=0:=by
 unfold te
 (repeat' split)<;>rfl
theorem Ux(d:Dl):wu (wg d).2=0:=by
 unfold wg;split<;>rfl
theorem yd.Ce{x:Xc}{L:Lt}{r:XR}{t n:Nat}(e:yd x L r t n h){o:List Ou}(ho:wu o=0):yd x L (JJ o r) t n h:=
 ⟨e.tr,e.tmo,e.q,by show r.1.r6=x.r6+wu (o++r.2.2);rw[Eb,ho,Nat.zero_add];exact e.snt,by show wu (o++r.2.2)+r.1.rest<=n;rw[Eb,ho,Nat.zero_add];exact e.rst,e.Di,e.lg,e.vd,e.us,e.ds,e.hd⟩
theorem yd.same{x y:Xc}{L:Lt}{o:List Ou}{t:Nat}(U:y.tr=x.tr)(F:y.tmo=x.tmo)(h3:y.q=x.q)(h4:y.r6=x.r6)(h5:y.rest=x.rest)(h6:y.Di<=t)(h7:y.lg<=2)(h8:y.done=true->y.vd≠0)(h9:y.d.ty.length<=h)(ho:wu o=0):yd x L (y,L,o) t x.rest h:=
 ⟨U,F,h3,by show y.r6=x.r6+wu o;omega,by show wu o+y.rest<=x.rest;omega,h6,h7,h8,Nat.le_add_right _ _,I,h9⟩
theorem MG{x:Xc}(h:x.done=false->x.st)(E:x.done=false->1<=x.left)(hlg:x.lg<=2)(hv:x.done=true->x.vd≠0)(L:Lt)(e:Ev):yd x L (sK x L e) (x.Di-(if e.kind=1 then 1 else 0)) x.rest (x.d.ty.length+e.data.length):=by
 cases hd:x.done with
 |true=>unfold sK;rw[if_pos hd];exact yd.same I I I I I (by rw[Ec hd];exact Nat.zero_le _) hlg hv (Nat.le_add_right _ _) I
 |false=>
 have h:=h hd;have hr:=Dj hd;have hp:=JO hd;have hl1:=E hd;have hx:=QY x.d e;have hN:=AR (x:={x with left:=x.left-1}) ⟨h.ips,h.to1,h.to2,h.trl,h.err⟩ hd hlg L;have hM:x.tmo.toNat*(3*(x.tr.length-x.k-1))<=x.tmo.toNat*x.rest:=Nat.mul_le_mul_left _ Y;unfold sK;rw[if_neg (by rw[hd];decide)];split
 ·
  split
  ·
   rename_i O;split
   ·
    have hN:=AR (x:={x with left:=x.left-1,d:=(wg x.d).1}) ⟨h.ips,h.to1,h.to2,h.trl,h.err⟩ hd hlg L;refine(yd.of (y:=x) (hN.Ce (Ux x.d)) I I I I).mono ?_ ?_ ?_
    ·exact pD
    ·exact qh
    ·show(wg x.d).1.ty.length<=_;unfold wg;split<;>exact Nat.le_add_right _ _
   ·exact nI
  ·
   rename_i O;split
   ·
    refine(yd.of (y:=x) ((MF (x:={x with d:=(te x.d e).1}) ⟨h.ips,h.to1,h.to2,h.trl,h.err⟩ hd hlg L _).Ce (Ed x.d e)) I I I I).mono ?_ ?_ hx
    ·show x.tmo.toNat*x.rest<=_;omega
    ·exact Nat.le_refl _
   ·
    split
    ·
     refine(yd.of (y:=x) ((AR (x:={x with d:=(te x.d e).1}) ⟨h.ips,h.to1,h.to2,h.trl,h.err⟩ hd hlg L).Ce (Ed x.d e)) I I I I).mono ?_ ?_ hx
     ·exact pD
     ·exact qh
    ·exact yd.same I I I I I dB hlg hv hx (Ed x.d e)
 ·
  split
  ·
   rename_i O;split
   ·
    refine(yd.of (y:=x) hN I I I I).mono ?_ ?_ (Nat.le_add_right _ _)
    ·exact pD
    ·exact qh
   ·exact nI
  ·
   rename_i O;split
   ·refine(MF h hd hlg L _).mono ?_ (Nat.le_refl _) (Nat.le_add_right _ _);omega
   ·exact yd.same I I I I I dB hlg hv (Nat.le_add_right _ _) I
theorem aaU(tmo:Int)(vc ed:Bool)(q:Qn)(tr:List sg)(L:Lt)(h:(tM (ug q 0 ed) false).2=0->(wY tmo vc ed q tr).st):yd (wY tmo vc ed q tr) L (Dv tmo vc ed q tr L) (tmo.toNat*(3*tr.length)) (3*tr.length) 0:=by
 unfold Dv;split
 ·exact⟨I,I,I,I,by rw[On I];exact Nat.zero_le _,by rw[Ec I];exact Nat.zero_le _,Nat.zero_le _,fun _=>by show(3:Int)≠0;decide,Nat.le_add_right _ _,I,Nat.le_refl _⟩
 ·rename_i he;exact Rm (h (Decidable.not_not.1 he)) I (Nat.zero_le _) L
theorem Rn(x:Xc)(L:Lt)(lg:Nat):(wX x L lg).2.2.length<=1:=by
 unfold wX;split
 ·exact aaE _
 ·exact Nat.le_refl _
theorem AS(x:Xc)(L:Lt):(Bp x L).2.2.length<=1:=by
 unfold Bp;split
 ·exact Rn _ _ _
 ·exact Nat.zero_le _
theorem Gl(x:Xc)(L:Lt)(m:tq):(xY x L m).2.2.length<=1:=by
 unfold xY
 (repeat' split)<;>first|exact Rn _ _ _|exact AS _ _|exact Nat.zero_le _
theorem MH(x:Xc)(L:Lt)(e:Ev):(sK x L e).2.2.length<=2:=by
 have U:=Ms x.d e;have F:=Mt x.d;unfold sK
 (repeat' split)<;>first
  |exact Nat.zero_le _
  |(show(_++(vD _ L).2.2).length<=2;rw[List.length_append];have:∀y,(vD y L).2.2.length<=1:=fun y=>AS _ _;exact Nat.add_le_add aV (this _))
  |(show(_++(xY _ L _).2.2).length<=2;rw[List.length_append];exact Nat.add_le_add U (Gl _ _ _))
  |exact Nat.le_succ_of_le U
  |exact Nat.le_succ_of_le (AS _ _)
  |exact Nat.le_succ_of_le (Gl _ _ _)
end Go.Proofs.YtakkipnmpmobbaaGreat
