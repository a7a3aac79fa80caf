/-
  Layer 26 (chain),plain:the records that are a name's,its first link,and what the chain leads to.
-/
import Derived.Test.YthnbcmlnpdabhaaGreatICq
namespace Go.Proofs.YthnbcmlnpdabhaaGreat
open _root_.Go.Proofs.Tryz
set_option maxHeartbeats 8000000
open Go.RowKit
set_option linter.unusedVariables false
variable {S:Nat->Prop} {w w':World} {e eb:Bool} {g gl h:Nat} {vn hs:Value} {qs:List Value}
def Tq(n:List (List UInt8))(k c:Int)(r:RR):Bool:=decide (r.O=k)&&(decide (r.N=c)&&decide (yl r.name=yl n))
def zW(l:List RR)(n:List (List UInt8))(k c:Int):List RR:=l.filter (Tq n k c)
def yW(O N:Int)(n:List (List UInt8)):List RR->Nat->Int->Int
 |[],_,i=>i
 |r::l,k,i=>yW O N n l (k+1) (if i<0/\r.O≠O/\Tq n 5 N r=true then k else i)
theorem O8(O N:Int)(n:List (List UInt8))(b:List RR):∀(a:List RR) (k:Nat) (i:Int),yW O N n (a++b) k i=yW O N n b (k+a.length) (yW O N n a k i)
 |[],k,i=>rfl
 |r::a,k,i=>by
  show yW O N n (a++b) (k+1) _=_;rw[O8 O N n b a (k+1)];rw[List.length_cons,show k+1+a.length=k+(a.length+1)by omega];rfl
structure Fnd where
 name:List (List UInt8)
 aoV:List RR
 ak:Option Int
 ash:Nat
def zh(t:Option Int)(n:Int):Option Int:=match t with
 |none=>some n
 |some m=>if n<m then some n else some m
def xD(q:Qn)(l:List RR):Nat->Nat->List (List UInt8)->Option Int->Except Int Fnd
 |f,k,n,t=>match zW l n q.O q.N with
  |r::rs=>.ok ⟨n,r::rs,(r::rs).foldl (fun t r=>zh t r.ak) t,k⟩
  |[]=>match zW l n 5 q.N with
   |[]=>.error 11
   |r::_=>match f with
    |0=>.error 15
    |f+1=>xD q l f (k+1) r.tg (zh t r.ak)
theorem Ts(O N:Int)(n:List (List UInt8)):∀(l:List RR) (k:Nat),zW l n O N=[]->match zW l n 5 N with
  |[]=>yW O N n l k (-1)= -1
  |r::_=>∃j:Nat,yW O N n l k (-1)=((k+j:Nat):Int)/\l[j]?=some r
 |[],k,_=>rfl
 |r::l,k,h=>by
  unfold zW at h;rw[List.filter_cons]at h;split at h
  ·cases h
  rename_i hn;have hn:Tq n O N r=false:=cG;unfold zW;rw[List.filter_cons];have ih:=Ts O N n l (k+1) h;unfold zW at ih;by_cases h5:Tq n 5 N r=true
  ·
   rw[if_pos h5];have hty:r.O≠O:=by intro e;unfold Tq at hn h5;rw[e]at hn;simp at hn h5;exact hn h5.2.1 h5.2.2
   refine⟨0,?_,J⟩;show yW O N n l (k+1) (if(-1:Int)<0/\r.O≠O/\Tq n 5 N r=true then(k:Int)else-1)=_;rw[if_pos ⟨az,hty,h5⟩];exact aiO O N n l (k+1) k I
  ·
   rw[if_neg h5];have e:yW O N n (r::l) k (-1)=yW O N n l (k+1) (-1):=by show yW O N n l (k+1) (if(-1:Int)<0/\r.O≠O/\Tq n 5 N r=true then(k:Int)else-1)=_;rw[if_neg (fun h=>h5 h.2.2)]
   rw[e];cases hf:List.filter (Tq n 5 N) l with
   |nil=>rw[hf]at ih;exact ih
   |cons x xs=>rw[hf]at ih;obtain⟨j,U,X⟩:=ih;exact⟨j+1,by rw[U];congr 1;omega,gv⟩
where
 aiO (O N:Int) (n:List (List UInt8)):∀(l:List RR) (k:Nat) (i:Int),0<=i->yW O N n l k i=i
  |[],k,i,_=>rfl
  |r::l,k,i,h=>by
   show yW O N n l (k+1) (if i<0/\r.O≠O/\Tq n 5 N r=true then(k:Int)else i)=i;rw[if_neg (fun h'=>by omega)];exact aiO O N n l (k+1) i h
set_option maxRecDepth 100000
set_option linter.unusedSimpArgs false
def acw(rs:List RR)(i:Int)(w:World)(e:Ending)(w':World):Prop:=∃A c,e= .returned (.tuple #[.slice A rs.length c,.int .i64 i])/\u7 w' w.heap.size (.slice A rs.length c) rs/\al w w'
theorem aaT(n:List (List UInt8))(k c:Int)(r:RR):Tq n k c r=(decide (r.O=k)&&(decide (r.N=c)&&decide (yl r.name=yl n))):=rfl
theorem Tt:(prog.info? 119).map (·.size)=some 33:=by kernel_rfl
theorem IV:(prog.info? 119).map (fun i=>(i.zero,i.size,i.bytes))=some (some (.agg wm.toArray),33,208):=by kernel_rfl
theorem aaU(vq:Value)(O N:Int)(A Al:Option Addr)(c cA:Nat)(n:List (List UInt8))(l:List RR)(w:World)(hN:xE w A c n)(hL:u7 w 0 (.slice Al l.length cA) l)(hl:l.length<=65535):
  Calls prog 199 #[.agg #[vq,.int .i64 O,.int .i64 N],.slice A n.length c,.slice Al l.length cA] w (acw (zW l n O N) (yW O N n l 0 (-1)) w):=by
 have HX:Below w.heap.size w (w.alloc (.cells #[vq,.int .i64 O,.int .i64 N] 28)):=gF;have BX:=F.new w 28 [vq,.int .i64 O,.int .i64 N];go_enter func199,ntmps199;go_wp2_with fail;go_loopw[8,9,14] (fun rv lv iv wr=>∃k:Nat,k<=l.length/\iv= .int .i64 k/\lv= .int .i64 (yW O N n (l.take k) 0 (-1))/\u7 wr w.heap.size rv (zW (l.take k) n O N)/\al w wr/\F wr w.heap.size 28 [vq,.int .i64 O,.int .i64 N]) (fun _ _ iv _=>l.length-(intOf iv).toNat)
 case atStart=>exact⟨0,Nat.zero_le _,J,J,u7.nil _ _,HX,BX⟩
 clear HX BX;obtain⟨k,z,rfl,rfl,ho,hB,BX⟩:=hrel;obtain⟨Ak,ck,hv⟩:=ho.form;subst hv;by_cases aB:k<l.length
 case neg=>have h1:¬(k:Int)<l.length:=I;rw[List.take_of_length_le I]at ho⊢;go_wp2_with fail;go_ret2;exact⟨Ak,ck,J,ho,hB⟩
 have h1:(k:Int)<l.length:=I;obtain⟨gs,hA,hgs,hr⟩:=hL.uG (fun _ _ h=>h.len) I;obtain⟨cx,hcx,hce⟩:=hr k aB;have hcx:=uD hcx hB hgs;subst hA;have hcl:=hce.len;have agj:=hce.one;rw[Nat.zero_add]at hcx;have l64:(0:Int)<=k:=I;have SF:Hid (zW (l.take (k+1)) n O N=zW (l.take k) n O N++(if Tq n O N l[k]=true then[l[k]]else[])):=Y eG;have SL:Hid (yW O N n (l.take (k+1)) 0 (-1)=if yW O N n (l.take k) 0 (-1)<0/\l[k].O≠O/\Tq n 5 N l[k]=true then(k:Int)else yW O N n (l.take k) 0 (-1)):=Y (by
  rw[List.take_succ_eq_append_getElem aB,O8,List.length_take,Nat.min_eq_left z,Nat.zero_add];rfl)
 obtain⟨vn,vt,vm,hS,hwf,hnm,htg,hml,_⟩:=hce;obtain⟨An,cn,hv,hNn⟩:=hnm.form;subst hv;have e0:cx[0]?=some (.slice An l[k].name.length cn):=bI;have e1:cx[1]?=some (.int .i64 l[k].O):=bI;have e2:cx[2]?=some (.int .i64 l[k].N):=bI;have CE:Hid (xv w cx l[k]):=mN;have DS:Hid (∀W,al w W->Calls prog 218 #[.slice An l[k].name.length cn,.slice A n.length c] W (uI (.bool (decide (yl l[k].name=yl n))) W)):=Y (fun W Z=>OR An A l[k].name n cn c W (hNn.G Z) (hN.G Z));have HO:=Y ho;have apn:(zW (l.take k) n O N).length<=65535:=by exact sX
 clear hS hwf hnm htg hml hNn ho hr hN hL;obtain⟨same,aii⟩:∃b:Bool,decide (yl l[k].name=yl n)=b:=gG;have IR:Hid (∀t' c',Tq n t' c' l[k]=(decide (l[k].O=t')&&(decide (l[k].N=c')&&same))):=Y (fun t' c'=>by rw[aaT,aii]);rw[aii]at DS;clear aii;obtain⟨R,hR⟩:=ao (zW (l.take k) n O N);rw[hR.out]at HO apn SF⊢;obtain⟨li,hli⟩:=ao (yW O N n (l.take k) 0 (-1));rw[hli.out]at SL⊢;have hrz:wm.length=33:=jV;have W1:Below wr.heap.size wr (wr.alloc (.cells wm.toArray 119)):=gF;generalize hrr:l[k]=r at*;clear hrr;generalize r.name.length=nl,r.O=rt,r.N=rc at*;go_wp2_with(first
  |(refine ur (.load 119 (.tmp 17)) rfl ?_;go_must(refine wj rfl 119 (.tmp 17) rfl gs (k*33) rfl cx hcx _ underlying119 rfl eH ?_))
  |(refine ur (.store 119 (.tmp 11) (.tmp 18)) rfl (ab rfl wr.heap.size 0 cx (F.new wr 119 wm) I eH agj ?_)))
 intro w1 B1 g1 sw;clear sw;have B1':=xA B1 I;have K1:=uq W1 g1 W1.size (Nat.le_refl _);have H1:=um hB hB.size K1;have BX2:=BX.G K1 BX.lt;have d0:=B1'.M 0 e0;have d1:=B1'.M 1 e1;have d2:=B1'.M 2 e2;have q1:=BX2.M 1 J;have q2:=BX2.M 2 J;have O1:=Y (u7.G HO.out K1);clear B1 g1 W1 hcx BX HO e0 e1 e2;have UN:Hid (Tq n O N r=false->¬(li<0/\rt≠O/\Tq n 5 N r=true)->yW O N n (l.take (k+1)) 0 (-1)=li/\zW (l.take (k+1)) n O N=R):=Y (fun U X=>⟨by rw[SL.out,if_neg X],by rw[SF.out,U];simp⟩);by_cases hc:rc=N
 case neg=>have hc':(rc !=N)=true:=iS;obtain⟨u1,u2⟩:=UN.out (by rw[IR.out,decide_eq_false hc];simp) (fun h=>by have:=h.2.2;rw[IR.out,decide_eq_false hc]at this;simp at this);have U1:=Y u1;have U2:=Y u2;clear u1 u2 hc UN SF SL;exact qn
 subst hc;have NC:Hid (same=false->yW O rc n (l.take (k+1)) 0 (-1)=li/\zW (l.take (k+1)) n O rc=R):=Y (fun h=>UN.out (by rw[IR.out,h];simp) (fun h'=>by have:=h'.2.2;rw[IR.out,h]at this;simp at this));by_cases ht:rt=O
 case pos=>
  subst ht;have SL2:Hid (yW rt rc n (l.take (k+1)) 0 (-1)=li):=Y (by rw[SL.out,if_neg (fun h=>h.2.1 J)]);have SF2:Hid (same=true->zW (l.take (k+1)) n rt rc=R++[r]):=Y (fun h=>by rw[SF.out,IR.out,h];simp);clear SL SF UN IR;go_wp2_with fail;refine(DS.out _ H1).mono ?_;rintro _ w2 ⟨rfl,b2⟩;have H2:=um H1 H1.size b2;have BX3:=BX2.G b2 BX2.lt;have O2:=Y (u7.G O1.out b2);cases same with
  |false=>obtain⟨u1,u2⟩:=NC.out J;have U1:=Y u1;have U2:=Y u2;clear u1 u2 NC SF2 SL2;exact qm
  |true=>
   have U2:=Y (SF2.out J);clear NC SF2;have B2':=B1'.G b2 B1'.lt;have f1:=B2'.M 1 eI;have g1:=BX3.M 1 J;have CE2:=Y (CE.out.uH (uK.G H2));clear d0 d1 d2 q1 q2 b2 BX2 O1 H1 K1 B1' DS;go_wp2_with(first
    |(refine ur (.load 119 (.tmp 11)) rfl ?_;go_must(refine uu rfl _ _ rfl wr.heap.size 0 rfl B2' 33 I _ underlying119 rfl Tt cx (wP I) ?_))
    |(refine ur (.buildSlice 48 1 #[(0,.tmp 51)]) rfl ?_;go_must(refine CX rfl 48 119 _ 33 208 underlying48 IV az az (.tmp 51) rfl cx rfl hcl ?_)))
   intro w3 B3 K3;have O3:=u7.G O2.out K3;have N3:=uY.ne O2.out (Nat.le_refl _);have H3:=um H2 H2.size K3;have BX4:=BX3.G K3 BX3.lt;have CE3:=CE2.out.uH (uK.G K3);clear f1 g1 K3 O2 CE2 B2' H2 BX3;go_wp2_with(at_builtin;go_must(refine yu _ J _ _ 48 J 119 _ 33 208 underlying48 IV (by kernel_rfl) az w.heap.size _ _ J O3 H3.size w2.heap.size cx r J B3 N3 hcl agj CE3 aK I ?_));intro v5 w5 O5 g5;have hbs:=O3.base;have hso:uK w3 w5:=by exact ue
   have H5:=H3.grown g5 H3.size hbs;have BX5:F w5 w.heap.size 28 [vq,.int .i64 rt,.int .i64 rc]:=by obtain⟨_,o4,_⟩:=O3;exact wh BX4 o4 az g5
   have O6:u7 w5 w.heap.size v5 (R++[r]):=lW;clear g5 O3 O5 H3 B3 N3 BX4 hso;go_wp2_with fail;go_roundw
   case rel=>exact⟨k+1,I,gp,by rw[SL2.out],by rw[U2.out];exact O6,H5,BX5⟩
   case measure=>simp[intOf];omega
 have ht':(rt !=O)=true:=nO;have aFW:(rt==O)=false:=nO;have SF2:Hid (zW (l.take (k+1)) n O rc=R):=Y eJ;by_cases h5:rt=5
 case neg=>have h5':(rt !=5)=true:=nQ;obtain⟨u1,u2⟩:=UN.out (by rw[IR.out,decide_eq_false ht];simp) (fun h=>by have:=h.2.2;rw[IR.out,decide_eq_false h5]at this;simp at this);have U1:=Y u1;have U2:=Y u2;clear u1 u2 h5 ht UN SF SL NC SF2;exact qn
 by_cases apx:li<0
 case neg=>have axX:decide (0<=li)=true:=aA;have aBU:0<=li:=I;have U1:Hid (yW O rc n (l.take (k+1)) 0 (-1)=li):=Y (by rw[SL.out,if_neg (fun h=>apx h.1)]);have U2:=SF2;subst h5;clear ht UN SF SL NC SF2 apx;exact qn
 have axX:decide (0<=li)=false:=aA;subst h5;have SL2:Hid (same=true->yW O rc n (l.take (k+1)) 0 (-1)=k):=Y (fun h=>by rw[SL.out,if_pos ⟨apx,ht,by rw[IR.out,h];simp⟩]);clear SL SF UN IR ht;go_wp2_with fail;refine(DS.out _ H1).mono ?_;rintro _ w2 ⟨rfl,b2⟩;have H2:=um H1 H1.size b2;have BX3:=BX2.G b2 BX2.lt;have O2:=Y (u7.G O1.out b2);cases same with
 |false=>obtain⟨u1,u2⟩:=NC.out J;have U1:=Y u1;have U2:=Y u2;clear u1 u2 NC SF2 SL2;exact qm
 |true=>have U1:=Y (SL2.out J);have U2:=SF2;have B2':=B1'.G b2 B1'.lt;have f1:=B2'.M 1 eI;have g1:=BX3.M 1 J;clear NC SL2 d0 d1 d2 q1 q2 b2 BX2 O1 H1 K1 B1' DS;exact qm
def MJ(gt gc:Nat)(t:Option Int)(w:World)(e:Ending)(w':World):Prop:=e= .returned (.tuple #[])/\∃w1 u,w.grownBy w1 (some gt)/\w1.grownBy w' (some gc)/\F w1 gc 4 [.bool u]/\F w' gt 3 [.int .i64 (t.getD 0)]/\F w' gc 4 [.bool t.isSome]
theorem Yo(n:Int)(gt gc:Nat)(t:Option Int)(w:World)(U:F w gt 3 [.int .i64 (t.getD 0)])(X:F w gc 4 [.bool t.isSome])(hne:gt≠gc):
  Calls prog 198 #[.int .i64 n,.pointer (some ⟨gc,0,none⟩),.pointer (some ⟨gt,0,none⟩)] w (MJ gt gc (zh t n) w):=by
 have f1:=U.frozen 0;have f2:=X.frozen 0;have SET:Hid (∀u:Option Int,u=some n->MJ gt gc u w (.returned (.tuple #[])) ((w.setCell ⟨gt,0,none⟩ (.int .i64 n)).setCell ⟨gc,0,none⟩ (.bool true))):=Y (fun u hu=>by
  subst hu;exact⟨J,_,t.isSome,uS (World.grownBy.refl _ _) 0 _,uS (World.grownBy.refl _ _) 0 _,X.y7 (p:=⟨gt,0,none⟩) (Ne.symm hne) _,(U.set 0 _).y7 (p:=⟨gc,0,none⟩) hne _,(X.y7 (p:=⟨gt,0,none⟩) (Ne.symm hne) _).set 0 _⟩)
 have auj:Hid (MJ gt gc t w (.returned (.tuple #[])) w):=Y ⟨J,w,t.isSome,World.grownBy.refl _ _,World.grownBy.refl _ _,X,U,X⟩;cases t with
 |none=>have c1:=U.M 0 (u:=.int .i64 0) J;have c2:=X.M 0 (u:=.bool false) J;have S:=Y (SET.out (zh none n) J);exact ti
 |some m=>
  have c1:=U.M 0 (u:=.int .i64 m) J;have c2:=X.M 0 (u:=.bool true) J;by_cases aB:n<m
  ·have S:=Y (SET.out (zh (some m) n) (if_pos aB));exact ti
  ·have e:zh (some m) n=some m:=if_neg aB;rw[e];clear U X SET e;go_enter func198,ntmps198;go_wp2_with fail;go_end0;exact auj.out
def Vq(o:Except Int Fnd)(w:World)(e:Ending)(w':World):Prop:=match o with
 | .ok f=>∃An cn A c,e= .returned (.tuple #[.agg #[.slice An f.name.length cn,.slice A f.aoV.length c,.int .i64 (f.ak.getD 0),.int .i64 f.ash],.int .i64 0])/\wO w' (.slice An f.name.length cn) f.name/\u7 w' 0 (.slice A f.aoV.length c) f.aoV/\al w w'
 | .error x=>∃An nn cn A n c a b,e= .returned (.tuple #[.agg #[.slice An nn cn,.slice A n c,.int .i64 a,.int .i64 b],.int .i64 x])/\al w w'
theorem Pa:(prog.info? 263).map (·.size)=some 4:=by kernel_rfl
theorem Ht(q:Qn)(l:List RR)(f k:Nat)(n:List (List UInt8))(t:Option Int):xD q l f k n t=match zW l n q.O q.N with
  |r::rs=>.ok ⟨n,r::rs,(r::rs).foldl (fun t r=>zh t r.ak) t,k⟩
  |[]=>match zW l n 5 q.N with
   |[]=>.error 11
   |r::_=>match f with
    |0=>.error 15
    |f+1=>xD q l f (k+1) r.tg (zh t r.ak):=by
 conv=>lhs;unfold xD
 all_goals rfl
theorem Vr(q:Qn)(A Al:Option Addr)(c cA:Nat)(l:List RR)(w:World)(hN:xE w A c q.name)(hn:q.name.length<=100000)(hL:u7 w 0 (.slice Al l.length cA) l)(hl:l.length<=65535):
  Calls prog 157 #[.agg #[.slice A q.name.length c,.int .i64 q.O,.int .i64 q.N],.slice Al l.length cA] w (Vq (xD q l 16 0 q.name none) w):=by
 obtain⟨agH,hF⟩:=ao (xD q l 16 0 q.name none);rw[hF.out];have LK:=Y (fun(An:Option Addr) (cn:Nat) (n:List (List UInt8)) (W:World) (Z:al w W) (h:xE w An cn n)=>aaU (.slice A q.name.length c) q.O q.N An Al cn cA n l W (h.G Z) (hL.G Z) hl);have LE:=Y (fun n gt gc t W U X h3=>Yo n gt gc t W U X h3);obtain⟨fz,hfz⟩:∃fz:List Value,fz=[.slice none 0 0,.slice none 0 0,.int .i64 0,.int .i64 0]:=gG;obtain⟨afz,hX⟩:∃afz,(((w.alloc (.cells #[.slice A q.name.length c,.int .i64 q.O,.int .i64 q.N] 28)).alloc (.cells #[.slice none 0 0,.slice none 0 0,.int .i64 0,.int .i64 0] 263)).alloc (.cells #[.int .i64 0] 3)).alloc (.cells #[.bool false] 4)=afz:=gG;have HX:al w afz:=by rw[<-hX];exact((((Below.refl _ _).alloc (Nat.le_refl _) _).alloc ap _).alloc aA _).alloc aA _
 have X1:F afz w.heap.size 28 [.slice A q.name.length c,.int .i64 q.O,.int .i64 q.N]:=by rw[<-hX];exact(((F.new w _ _).alloc _).alloc _).alloc _
 have X2:F afz (w.heap.size+1) 263 fz:=by rw[<-hX,hfz];exact((F.wE _ _ _ _ ap).alloc _).alloc _
 have X3:F afz (w.heap.size+1+1) 3 [.int .i64 ((none:Option Int).getD 0)]:=lC;have X4:F afz (w.heap.size+1+1+1) 4 [.bool (none:Option Int).isSome]:=mu;have hX':=Y hX;clear hX;go_enter func157,ntmps157;go_wp2_with fail;rw[hX'.out];have X:w.heap.size<=w.heap.size+1:=I;have h3:w.heap.size<=w.heap.size+1+1:=I;have h4:w.heap.size<=w.heap.size+1+1+1:=I;have n34:w.heap.size+1+1≠w.heap.size+1+1+1:=I;have n13:w.heap.size≠w.heap.size+1+1:=I;have n14:w.heap.size≠w.heap.size+1+1+1:=I;have n23:w.heap.size+1≠w.heap.size+1+1:=I;have n24:w.heap.size+1≠w.heap.size+1+1+1:=I;clear hX';generalize w.heap.size+1+1+1=gc at*;generalize w.heap.size+1+1=gt at*;generalize w.heap.size+1=g2 at*;have hfl:fz.length=4:=by rw[hfz];rfl
 clear hfz;go_loopw[6,10] (fun nv kv wr=>∃(k:Nat) (n:List (List UInt8)) (An:Option Addr) (cn:Nat) (t:Option Int),nv= .slice An n.length cn/\kv= .int .i64 k/\k<=16/\xE w An cn n/\n.length<=100000/\Hid (xD q l (16-k) k n t=agH)/\F wr gt 3 [.int .i64 (t.getD 0)]/\F wr gc 4 [.bool t.isSome]/\F wr w.heap.size 28 [.slice A q.name.length c,.int .i64 q.O,.int .i64 q.N]/\F wr g2 263 fz/\al w wr) (fun _ kv _=>17-(intOf kv).toNat)
 case atStart=>exact⟨0,q.name,A,c,none,J,J,I,hN,hn,hF,X3,X4,X1,X2,HX⟩
 clear X1 X2 X3 X4 HX hN hn;obtain⟨k,n,An,cn,t,rfl,rfl,z,hNm,hnl,HF,B3,B4,B1,B2,hB⟩:=hrel;have LKn:=Y (LK.out An cn n wr hB hNm);generalize hQ:[Value.slice A q.name.length c,.int .i64 q.O,.int .i64 q.N]=Qc at*;have hQl:Qc.length=3:=by rw[<-hQ];rfl
 rw[Ht]at HF;have HLK:=Y (Ts q.O q.N n l 0);obtain⟨li,hli⟩:∃li,yW q.O q.N n l 0 (-1)=li:=gG;rw[hli]at LKn HLK;clear hli hQ LK;go_wp2_with(refine ur (.load 28 (.tmp 2)) J ?_;go_must(refine uu J _ _ J w.heap.size 0 J B1 3 I _ underlying28 J xu Qc (wP I) ?_));refine LKn.out.mono ?_;rintro _ w1 ⟨Ar,cr,rfl,hR,b1⟩;have E1:=B1.G b1 B1.lt;have E2:=B2.G b1 B2.lt;have E3:=B3.G b1 B3.lt;have E4:=B4.G b1 B4.lt;have H1:=um hB hB.size b1;have HR:Hid (u7 w1 0 (.slice Ar (zW l n q.O q.N).length cr) (zW l n q.O q.N)):=Y (uY.zero hR);clear b1 B1 B2 B3 B4 hB LKn hR;obtain⟨rs,hrs⟩:=ao (zW l n q.O q.N);rw[hrs.out]at HF HR⊢;cases rs with
 |cons r0 rs=>
  have ahl:0<(r0::rs).length:=ap;have HF2:Hid (agH= .ok ⟨n,r0::rs,(r0::rs).foldl (fun t r=>zh t r.ak) t,k⟩):=Y (by rw[<-HF.out]);have hrl:(r0::rs).length<=65535:=by rw[<-hrs.out];exact Nat.le_trans (List.length_filter_le _ _) hl
  clear HF HLK hrs;generalize r0::rs=R at*;go_wp2_with fail;obtain⟨wo,hwo⟩:∃wo:World,w1=wo:=gG;subst hwo;go_loopw[32] (fun iv wx=>∃(j:Nat) (u:Option Int),j<=R.length/\iv= .int .i64 j/\Hid ((R.take j).foldl (fun t r=>zh t r.ak) t=u)/\F wx gt 3 [.int .i64 (u.getD 0)]/\F wx gc 4 [.bool u.isSome]/\F wx g2 263 fz/\al w wx/\Hid (u7 wx 0 (.slice Ar R.length cr) R)) (fun iv _=>R.length-(intOf iv).toNat)
  case atStart=>exact⟨0,t,Nat.zero_le _,J,Y J,E3,E4,E2,H1,HR⟩
  clear E1 E2 E3 E4 H1 HR;obtain⟨j,u,hj,rfl,HU,D3,D4,D2,hB,HR⟩:=hrel;by_cases aB:j<R.length
  case pos=>
   have h1:(j:Int)<R.length:=I;obtain⟨gs,hA,hgs,hr⟩:=uY.uG (fun _ _ h=>h.len) HR.out ahl;obtain⟨cx,hcx,hce⟩:=hr j aB;rw[Nat.zero_add]at hcx;have hcl:=hce.len;have agj:=hce.one;have e3:cx[3]?=some (.int .i64 R[j].ak):=by obtain⟨vn,vt,vm,hS,_⟩:=hce;rw[hS];rfl
   have HU2:Hid ((R.take (j+1)).foldl (fun t r=>zh t r.ak) t=zh u R[j].ak):=Y (by rw[List.take_succ_eq_append_getElem aB,List.foldl_append,HU.out];rfl);subst hA;have hrz:wm.length=33:=jV;have W1:Below wr.heap.size wr (wr.alloc (.cells wm.toArray 119)):=gF;clear hce hr HU;generalize R[j].ak=tl at*;go_wp2_with(first
    |(refine ur (.load 119 (.tmp 34)) rfl ?_;go_must(refine wj rfl 119 (.tmp 34) rfl gs (j*33) rfl cx hcx _ underlying119 rfl eH ?_))
    |(refine ur (.store 119 (.tmp 14) (.tmp 35)) rfl (ab rfl wr.heap.size 0 cx (F.new wr 119 wm) I eH agj ?_)))
   intro w3 B5 g5 sw;clear sw;have B5':=xA B5 I;have K1:=uq W1 g5 W1.size (Nat.le_refl _);have d3:=B5'.M 3 e3;replace D2:=D2.G K1 D2.lt;replace D3:=D3.G K1 D3.lt;replace D4:=D4.G K1 D4.lt;replace HR:=Y (u7.G HR.out K1);replace hB:=um hB hB.size K1;clear B5 B5' g5 W1 K1 hcx e3;go_wp2_with fail;refine(LE.out _ _ _ _ _ D3 D4 n34).mono ?_;rintro _ w5 ⟨rfl,w4,u4,g4,g5,C4,F3,F4⟩;have G2:=(D2.grown g4 (by simp;exact n23)).grown g5 (by simp;exact n24);have HB5:=uq (uq hB g4 hB.size h3) g5 (Nat.le_trans hB.size g4.size) h4;have HR5:=Y ((u7.vj HR.out g4 D3 az az).vj g5 C4 az az);clear g4 g5 C4 D2 D3 D4 HR hB d3;go_wp2_with fail;go_roundw
   case rel=>exact⟨j+1,zh u tl,I,gp,HU2,F3,F4,G2,HB5,HR5⟩
   case measure=>simp[intOf];omega
  case neg=>
   have h1:¬(j:Int)<R.length:=I;rw[List.take_of_length_le I]at HU;have HF3:Hid (agH= .ok ⟨n,R,u,k⟩):=Y (by rw[HF2.out,HU.out]);have CL:=Y (fun W Z=>DU An cn n W (hNm.G Z) hnl);have RB:Hid (∀(Ac:Option Addr) (cc:Nat) (W:World),(Instr.build 263 #[(0,.slice Ac n.length cc),(1,.slice Ar R.length cr),(2,.int .i64 (u.getD 0)),(3,.int .i64 k)]).run prog W= .ok (.agg [Value.slice Ac n.length cc,.slice Ar R.length cr,.int .i64 (u.getD 0),.int .i64 k].toArray) W):=Y (fun Ac cc W=>by kernel_rfl);clear HF2 HU D4 ahl LE;obtain⟨uv,huv⟩:=ao (u.getD 0);rw[huv.out]at D3 RB;go_wp2_with fail;refine wp_region_held_drew (S:=fun V=>F V gt 3 [.int .i64 uv]) (by kernel_rfl) D3.drew (fun K=>?_);have HD:Below wr.heap.size wr wr.drew:=iQ;refine uL K 4 [0,2,3,4] J (by kernel_rfl) (fun _ _ _ _ _ h=>h) J J ?_;repeat(refine aj _ ?_;simp only[E])
   (refine ah _ J J (fun V hV=>(uP 3 (.tmp 7) ⟨gt,0,none⟩ J J (uB underlying3 J (hV.M 0 J)))) ?_;simp only[E])
   repeat(refine aj _ ?_;simp only[E])
   simp only[vY];refine vx 1 (some 42) 73 #[.slice An n.length cn] (by kernel_rfl) J J (by kernel_rfl) bp (CL.out _ (um hB hB.size HD)) ?_;rintro _ w6 ⟨Ac,cc,rfl,o6,b6⟩;have K:=K.G b6 K.lt;have HD:=um HD HD.size b6;refine⟨_,J,K,?_⟩;simp only[E];refine uL K 1 [5] J (by kernel_rfl) (fun _ _ _ _ _ h=>h) J J ?_
   (refine ah (.agg [Value.slice Ac n.length cc,.slice Ar R.length cr,.int .i64 uv,.int .i64 k].toArray) J J (fun V hV=>(AZ 263 _ J #[(0,.slice Ac n.length cc),(1,.slice Ar R.length cr),(2,.int .i64 uv),(3,.int .i64 k)] (by kernel_rfl) (RB.out Ac cc V))) ?_;simp only[E])
   simp only[vY];refine wu 6 none 263 (.tmp 4) (.tmp 46) (by kernel_rfl) J J J (by kernel_rfl) g2 0 J [Value.slice Ac n.length cc,.slice Ar R.length cr,.int .i64 uv,.int .i64 k] J (D2.G HD D2.lt) eL Pa aP ?_;intro w7 B7 g7 s7;rw[List.take_zero,List.nil_append,Nat.zero_add]at B7;have B7':=xA B7 (Nat.le_of_eq hfl);have T7:wO w7 (.slice Ac n.length cc) n:=(uK.vj g7 (D2.G HD D2.lt) az) _ _ (CP o6);have R7:=u7.vj (u7.G HR.out HD) g7 (D2.G HD D2.lt) az az;have H7:=uq (um hB hB.size HD) g7 (Nat.le_trans hB.size HD.size) X;have K:=K.grown g7 aA;refine⟨K,?_⟩;simp only[E];refine uL K 1 [7] J (by kernel_rfl) (fun _ _ _ _ _ h=>h) J J ?_;repeat(refine aj _ ?_;simp only[E])
   simp only[vY];refine wpAnyH_done (by kernel_rfl) ?_ _;go_wp2_with fail;refine vg J g2 J B7' _ underlying263 J Pa J (.int .i64 0) J ?_;rw[HF3.out];exact⟨Ac,cc,Ar,cr,by rw[huv.out],T7,R7,H7⟩
 |nil=>
  have HK:=HLK.out hrs.out;clear HLK hrs HR;cases h5:zW l n 5 q.N with
  |nil=>
   rw[h5]at HK HF;have HF3:Hid (agH= .error 11):=Y (by rw[<-HF.out]);subst HK;have CL:=Y (fun W Z=>DU An cn n W (hNm.G Z) hnl);have RB:Hid (∀(Ac:Option Addr) (cc:Nat) (W:World),(Instr.build 263 #[(0,.slice Ac n.length cc),(3,.int .i64 k)]).run prog W= .ok (.agg [Value.slice Ac n.length cc,.slice none 0 0,.int .i64 0,.int .i64 k].toArray) W):=Y (fun Ac cc W=>by kernel_rfl);clear HF h5 LE;go_wp2_with fail;refine(CL.out _ H1).mono ?_;rintro _ w6 ⟨Ac,cc,rfl,o6,b6⟩;have E2':=E2.G b6 E2.lt;have H6:=um H1 H1.size b6;clear b6 E2 E3 E4 E1 H1;go_wp2_with(first
    |(refine ur (.build 263 #[(0,.tmp 50),(3,.tmp 51)]) rfl ?_;go_must(refine wi rfl 263 _ rfl #[(0,.slice Ac n.length cc),(3,.int .i64 k)] ee (RB.out Ac cc _) ?_))
    |(refine ur (.store 263 (.tmp 4) (.tmp 52)) rfl (ab rfl g2 0 [Value.slice Ac n.length cc,.slice none 0 0,.int .i64 0,.int .i64 k] E2' eL Pa aP ?_)))
   intro w7 B7 g7 sw;clear sw;have B7':=xA (L:=[Value.slice Ac n.length cc,.slice none 0 0,.int .i64 0,.int .i64 k]) B7 (Nat.le_of_eq hfl);have H7:=uq H6 g7 H6.size X;go_wp2_with fail;refine vg J g2 J B7' _ underlying263 J Pa J (.int .i64 11) J ?_;exact tY
  |cons r tail=>
   rw[h5]at HK HF;obtain⟨j,hj,hr⟩:=HK;rw[Nat.zero_add]at hj;subst hj;obtain⟨hjl,hjr⟩:=List.getElem?_eq_some_iff.1 hr;have hj0:decide ((j:Int)<0)=false:=ap;have alW:(j:Int)<l.length:=I;obtain⟨gs,hA,hgs,aij⟩:=uY.uG (fun _ _ h=>h.len) hL I;obtain⟨cx,hcx,hce⟩:=aij j hjl;rw[hjr]at hce;subst hA;rw[Nat.zero_add]at hcx;replace hcx:=uD hcx H1 hgs;obtain⟨vn,vt,vm,hS,hwf,hnm,htg,hml,_⟩:=hce;obtain⟨At,ct,hv,hNt⟩:=htg.form;subst hv;have c3:=hcx 3 (.int .i64 r.ak) bI;have c22:=hcx 22 (.slice At r.tg.length ct) (by rw[hS];exact BS hwf);have htl:r.tg.length<=100000:=by obtain⟨h6,h7⟩:=xj htg.2;have:=z9 r.tg;omega
   clear hS hwf hnm htg hml aij hcx hr hjr h5;by_cases asW:k=16
   case pos=>
    have hk':((k:Int)==16)=true:=aA;have HF3:Hid (agH= .error 15):=Y (by rw[<-HF.out];subst asW;rfl);have RB:Hid (∀(W:World),(Instr.build 263 #[]).run prog W= .ok (.agg [Value.slice none 0 0,.slice none 0 0,.int .i64 0,.int .i64 0].toArray) W):=Y (fun W=>by kernel_rfl);clear HF LE asW;go_wp2_with(first
     |(refine ur (.build 263 #[]) rfl ?_;go_must(refine wi rfl 263 _ rfl #[] ee (RB.out _) ?_))
     |(refine ur (.store 263 (.tmp 4) (.tmp 55)) rfl (ab rfl g2 0 [Value.slice none 0 0,.slice none 0 0,.int .i64 0,.int .i64 0] E2 eL Pa aP ?_)))
    intro w7 B7 g7 sw;clear sw;have B7':=xA (L:=[Value.slice none 0 0,.slice none 0 0,.int .i64 0,.int .i64 0]) B7 (Nat.le_of_eq hfl);have H7:=uq H1 g7 H1.size X;go_wp2_with fail;refine vg J g2 J B7' _ underlying263 J Pa J (.int .i64 15) J ?_;exact tY
   case neg=>
    have hk':((k:Int)==16)=false:=aA;have HF3:Hid (xD q l (16-(k+1)) (k+1) r.tg (zh t r.ak)=agH):=Y (by
     rw[<-HF.out,show 16-k=(16-(k+1))+1 by omega])
    clear HF;generalize r.ak=tl at*;go_wp2_with fail;refine(LE.out _ _ _ _ _ E3 E4 n34).mono ?_;rintro _ w5 ⟨rfl,w4,u4,g4,g5,C4,F3,F4⟩;have G1:=(E1.grown g4 (by simp;exact n13)).grown g5 (by simp;exact n14);have G2:=(E2.grown g4 (by simp;exact n23)).grown g5 (by simp;exact n24);have HB5:=uq (uq H1 g4 H1.size h3) g5 (Nat.le_trans H1.size g4.size) h4;have aH2:w5.cell? ⟨gs,j*33+22,none⟩=some (.slice At r.tg.length ct):=by rw[<-c22,HB5.cell (p:=⟨gs,_,none⟩) hgs,H1.cell (p:=⟨gs,_,none⟩) hgs]
    clear g4 g5 C4 E1 E2 E3 E4 H1 c3 c22;go_wp2_with fail;go_roundw
    case rel=>exact⟨k+1,r.tg,At,ct,zh t tl,J,gp,I,hNt,htl,HF3,F3,F4,G1,G2,HB5⟩
    case measure=>simp[intOf];omega
def xH(h:Hd)(conn abo:Bool):Int:=
 if h.tc=true/\conn=false then 2 else if h.rc=0\/h.rc=3 then 1 else if h.rc=2 then 4 else if abo=true/\(h.rc=1\/h.rc=4)then 3 else 5
def zi(q:Qn)(m:vU):Int:=match xD q m.an 16 0 q.name none with
 | .ok _=>1
 | .error e=>if e=15 then 5 else if m.hd.rc=3 then 3 else 2
theorem acx(h:Hd)(conn abo:Bool)(w:World):Calls prog 196 #[.agg h.ww.toArray,.bool conn,.bool abo] w (uI (.int .i64 (xH h conn abo)) w):=by
 have HX:Below w.heap.size w (w.alloc (.cells h.ww.toArray 46)):=gF;have BX:=F.new w 46 h.ww;have c4:=BX.M 4 (u:=.bool h.tc) J;have c9:=BX.M 9 (u:=.int .i64 h.rc) J;have hb:xH h conn abo=if h.tc=true/\conn=false then 2 else if h.rc=0\/h.rc=3 then 1 else if h.rc=2 then 4 else if abo=true/\(h.rc=1\/h.rc=4)then 3 else 5:=rfl
 have HK:=Y hb;clear hb BX;generalize h.ww=L,h.tc=tc,h.rc=rc at*;by_cases U:tc=true/\conn=false
 ·obtain⟨rfl,rfl⟩:=U;have aeH:Hid (xH h false abo=2):=Y (by rw[HK.out];simp);clear HK;go_enter func196,ntmps196;exact pE
 rw[if_neg U]at HK;have HT:tc=false\/tc=true/\conn=true:=mJ;obtain⟨V,hV⟩:=ao (xH h conn abo);have HV:Hid ((if rc=0\/rc=3 then(1:Int)else if rc=2 then 4 else if abo=true/\(rc=1\/rc=4)then 3 else 5)=V):=Y eO;rw[hV.out];clear HK hV U;have ae:∀k:Int,rc≠k->(rc==k)=false:=mf;by_cases r0:rc=0
 case pos=>subst r0;have aeH:Hid (V=1):=Y eP;clear HV ae;exact pr
 by_cases r3:rc=3
 case pos=>subst r3;have aeH:Hid (V=1):=Y eP;clear HV ae r0;exact pr
 by_cases r2:rc=2
 case pos=>subst r2;have aeH:Hid (V=4):=Y eP;clear HV ae r0 r3;exact pr
 by_cases r1:rc=1
 case pos=>
  subst r1;cases abo with
  |true=>have aeH:Hid (V=3):=Y eP;clear HV ae r0 r3 r2;exact pr
  |false=>have aeH:Hid (V=5):=Y eP;clear HV ae r0 r3 r2;exact pr
 by_cases r4:rc=4
 case pos=>
  subst r4;cases abo with
  |true=>have aeH:Hid (V=3):=Y eP;clear HV ae r0 r3 r2 r1;exact pr
  |false=>have aeH:Hid (V=5):=Y eP;clear HV ae r0 r3 r2 r1;exact pr
 have aeH:Hid (V=5):=ky;have q0:=ae 0 r0;have q1:=ae 1 r1;have q2:=ae 2 r2;have q3:=ae 3 r3;have q4:=ae 4 r4;clear HV ae r0 r1 r2 r3 r4;exact pr
structure Xc where
 cl:Int
 vc:Bool
 ed:Bool
 q:Qn
 tr:List vG
 k:Nat
 lg:Nat
 left:Int
 uV:Nat
 y:Qy
 d:Dl
 hard:Bool
 done:Bool
 vd:Int
 yr:vU
abbrev XR:=Xc×Lt×List Ou
def Xc.yB(x:Xc):Bool:=decide (x.lg=0)&&x.ed
def yz(x:Xc)(L:Lt):Qy:=⟨x.tr.getD x.k vG.zero,1024+(xG L 64512).1,(xG (xG L 64512).2 65536).1,x.q⟩
def Hu(L:Lt):Lt:=(xG (xG L 64512).2 65536).2
def ym(x:Xc)(L:Lt)(lg:Nat):XR:=
 if lg=2 then({x with y:=yz x L,lg:=2,left:=x.cl,uV:=x.uV+1,d:=(zw (yz x L)).1},Hu L,(zw (yz x L)).2)
 else({x with y:=yz x L,lg:=lg,left:=x.cl,uV:=x.uV+1},Hu L,[⟨1,(yz x L).sv,(yz x L).port,(vN (vW x.q (yz x L).id (decide (lg=0)&&x.ed)) false).1⟩])
def Db(x:Xc)(L:Lt):XR:=if x.k<x.tr.length then ym x L (if x.vc then 2 else 0)else({x with done:=true,vd:=if x.hard then 5 else 4,yr:=vU.zero},L,[])
def wM(x:Xc)(L:Lt):XR:=Db {x with k:=x.k+1} L
def yX(x:Xc)(L:Lt)(m:vU):XR:=
 if xH m.hd (decide (x.lg=2)) x.yB=1 then({x with done:=true,vd:=zi x.q m,yr:=m},L,[])
 else if xH m.hd (decide (x.lg=2)) x.yB=2 then ym x L 2
 else if xH m.hd (decide (x.lg=2)) x.yB=3 then ym x L 1
 else if xH m.hd (decide (x.lg=2)) x.yB=5 then wM {x with hard:=true} L
 else wM x L
def EU(o:List Ou)(r:XR):XR:=(r.1,r.2.1,o++r.2.2)
def xI(x:Xc)(L:Lt)(e:Ev):XR:=
 if x.done then(x,L,[])
 else if x.lg=2 then
  if e.kind=1 then(if x.left<=1 then EU (xU x.d).2 (wM {x with left:=x.left-1,d:=(xU x.d).1} L)else({x with left:=x.left-1},L,[]))
  else if(vM x.d e).1.st=1 then EU (vM x.d e).2 (yX {x with d:=(vM x.d e).1} L (vM x.d e).1.yr)
  else if(vM x.d e).1.st=2 then EU (vM x.d e).2 (wM {x with d:=(vM x.d e).1} L)
  else({x with d:=(vM x.d e).1},L,(vM x.d e).2)
 else if e.kind=1 then(if x.left<=1 then wM {x with left:=x.left-1} L else({x with left:=x.left-1},L,[]))
 else if(Dm x.y e).2 then yX x L (Dm x.y e).1 else(x,L,[])
def Dc(cl:Int)(vc ed:Bool)(q:Qn)(tr:List vG):Xc:=⟨cl,vc,ed,q,tr,0,0,0,0,⟨vG.zero,0,0,⟨[],0,0⟩⟩,⟨⟨vG.zero,0,0,⟨[],0,0⟩⟩,[],2,false,[],vU.zero⟩,false,false,0,vU.zero⟩
def BL(cl:Int)(vc ed:Bool)(q:Qn)(tr:List vG)(L:Lt):XR:=
 if(vN (vW q 0 ed) false).2≠0 then({Dc cl vc ed q tr with done:=true,vd:=3},L,[])else Db (Dc cl vc ed q tr) L
structure Xc.st (x:Xc):Prop where
 ips:∀a∈x.tr,a.ip.length=16
 to1:1<=x.cl
 to2:x.cl<=30
 trl:x.tr.length<=1000
 err:∀id e,0<=id->id<=65535->(vN (vW x.q id e) false).2=0
structure Xc.ok (x:Xc):Prop where
 st:x.done=false->x.st
 go:x.done=false->x.k<x.tr.length/\1<=x.left/\x.left<=x.cl/\x.y.q=x.q/\x.y.sv=x.tr.getD x.k vG.zero/\(x.lg=2->x.d.st=0/\x.d.y=x.y/\x.d.ok)
def GR(D:Option Nat):Value:=.pointer (D.map fun g=>⟨g,0,none⟩)
def z5(T:List Value)(vn:Value)(q:Qn)(vt:Value)(gl:Nat)(k:Nat)(hs:Value)(qs:List Value)(eb:Bool)(dp:Option Nat)(left:Int)(uV:Nat)(hard done:Bool)(vd:Int)(ds:List Value):List Value:=
 T++(qC vn q++(vt:: .pointer (some ⟨gl,0,none⟩):: .int .i64 k::hs::(qs++(.bool eb::GR dp:: .int .i64 left:: .int .i64 uV:: .bool hard:: .bool done:: .int .i64 vd::ds))))
section
variable {T qs ds:List Value} {vn vt hs:Value} {q:Qn} {gl k:Nat} {eb hard done:Bool} {dp:Option Nat} {left vd:Int} {uV:Nat}
theorem IW(hT:T.length=10)(hq:qs.length=23)(i:Nat)(hi:i<10):(z5 T vn q vt gl k hs qs eb dp left uV hard done vd ds)[i]?=T[i]?:=by
 unfold z5;rw[List.getElem?_append_left I]
theorem aej(hT:T.length=10)(hq:qs.length=23):((z5 T vn q vt gl k hs qs eb dp left uV hard done vd ds).drop 10).take 3=qC vn q:=by
 unfold z5;rw[show(10:Nat)=T.length by omega,List.drop_left];exact List.take_left' J
theorem Fz(hT:T.length=10)(hq:qs.length=23)(i:Nat)(hi:i<4):(z5 T vn q vt gl k hs qs eb dp left uV hard done vd ds)[13+i]?=[vt,.pointer (some ⟨gl,0,none⟩),.int .i64 k,hs][i]?:=by
 unfold z5;rw[List.getElem?_append_right I,hT,List.getElem?_append_right (by simp[qC];omega),show 13+i-10-(qC vn q).length=i by simp[qC];omega];match i,hi with
 |0,_=>rfl
 |1,_=>rfl
 |2,_=>rfl
 |3,_=>rfl
theorem Ec(hT:T.length=10)(hq:qs.length=23):(z5 T vn q vt gl k hs qs eb dp left uV hard done vd ds).drop 17=qs++(.bool eb::GR dp:: .int .i64 left:: .int .i64 uV:: .bool hard:: .bool done:: .int .i64 vd::ds):=by
 unfold z5;rw[show(17:Nat)=T.length+7 by omega,List.drop_append];rw[List.drop_of_length_le I,List.nil_append];simp[qC]
theorem afl(hT:T.length=10)(hq:qs.length=23):((z5 T vn q vt gl k hs qs eb dp left uV hard done vd ds).drop 17).take 23=qs:=by
 rw[Ec hT hq];exact List.take_left' hq
theorem ED(hT:T.length=10)(hq:qs.length=23)(i:Nat)(hi:i<7):(z5 T vn q vt gl k hs qs eb dp left uV hard done vd ds)[40+i]?=[Value.bool eb,GR dp,.int .i64 left,.int .i64 uV,.bool hard,.bool done,.int .i64 vd][i]?:=by
 have e:(z5 T vn q vt gl k hs qs eb dp left uV hard done vd ds)[40+i]?=((z5 T vn q vt gl k hs qs eb dp left uV hard done vd ds).drop 17)[23+i]?:=by rw[List.getElem?_drop];congr 1;omega
 rw[e,Ec hT hq,List.getElem?_append_right I,hq,Nat.add_sub_cancel_left];match i,hi with
 |0,_=>rfl
 |1,_=>rfl
 |2,_=>rfl
 |3,_=>rfl
 |4,_=>rfl
 |5,_=>rfl
 |6,_=>rfl
theorem aek(hT:T.length=10)(hq:qs.length=23):((z5 T vn q vt gl k hs qs eb dp left uV hard done vd ds).drop 46).take 15= .int .i64 vd::ds.take 14:=by
 have e:(z5 T vn q vt gl k hs qs eb dp left uV hard done vd ds).drop 46= .int .i64 vd::ds:=by rw[show(46:Nat)=17+29 from J,<-List.drop_drop,Ec hT hq,show(29:Nat)=qs.length+6 by omega,List.drop_append];simp
 rw[e];rfl
theorem Ca(hT:T.length=10)(hq:qs.length=23):(z5 T vn q vt gl k hs qs eb dp left uV hard done vd ds).length=47+ds.length:=by
 simp[z5,hT,hq,qC];omega
theorem acy(hT:T.length=10)(hq:qs.length=23)(k':Nat):(z5 T vn q vt gl k hs qs eb dp left uV hard done vd ds).set 15 (.int .i64 k')=z5 T vn q vt gl k' hs qs eb dp left uV hard done vd ds:=by
 exact qJ
theorem ML(hT:T.length=10)(hq:qs.length=23)(h':Value):(z5 T vn q vt gl k hs qs eb dp left uV hard done vd ds).set 16 h'=z5 T vn q vt gl k h' qs eb dp left uV hard done vd ds:=by
 exact qJ
theorem aaV(hT:T.length=10)(hq:qs.length=23)(b:Bool):(z5 T vn q vt gl k hs qs eb dp left uV hard done vd ds).set 40 (.bool b)=z5 T vn q vt gl k hs qs b dp left uV hard done vd ds:=by
 exact qJ
theorem MM(hT:T.length=10)(hq:qs.length=23)(d:Option Nat):(z5 T vn q vt gl k hs qs eb dp left uV hard done vd ds).set 41 (GR d)=z5 T vn q vt gl k hs qs eb d left uV hard done vd ds:=by
 exact qJ
theorem MO(hT:T.length=10)(hq:qs.length=23)(n:Int):(z5 T vn q vt gl k hs qs eb dp left uV hard done vd ds).set 42 (.int .i64 n)=z5 T vn q vt gl k hs qs eb dp n uV hard done vd ds:=by
 exact qJ
theorem Vs(hT:T.length=10)(hq:qs.length=23)(n:Nat):(z5 T vn q vt gl k hs qs eb dp left uV hard done vd ds).set 43 (.int .i64 n)=z5 T vn q vt gl k hs qs eb dp left n hard done vd ds:=by
 exact qJ
theorem Vt(hT:T.length=10)(hq:qs.length=23)(b:Bool):(z5 T vn q vt gl k hs qs eb dp left uV hard done vd ds).set 44 (.bool b)=z5 T vn q vt gl k hs qs eb dp left uV b done vd ds:=by
 exact qJ
theorem Vu(hT:T.length=10)(hq:qs.length=23)(b:Bool):(z5 T vn q vt gl k hs qs eb dp left uV hard done vd ds).set 45 (.bool b)=z5 T vn q vt gl k hs qs eb dp left uV hard b vd ds:=by
 exact qJ
theorem Pb(hT:T.length=10)(hq:qs.length=23):(z5 T vn q vt gl k hs qs eb dp left uV hard done vd ds).take 17=T++(qC vn q++[vt,.pointer (some ⟨gl,0,none⟩),.int .i64 k,hs]):=by
 unfold z5;rw[show(17:Nat)=T.length+7 by omega,List.take_append,List.take_of_length_le I];simp[qC]
theorem WH(hT:T.length=10)(hq:qs.length=23)(qs':List Value)(hq':qs'.length=23):(z5 T vn q vt gl k hs qs eb dp left uV hard done vd ds).take 17++qs'++(z5 T vn q vt gl k hs qs eb dp left uV hard done vd ds).drop (17+qs'.length)=z5 T vn q vt gl k hs qs' eb dp left uV hard done vd ds:=by
 rw[Pb hT hq,hq',<-List.drop_drop,Ec hT hq,List.drop_left' hq];simp[z5]
theorem Yp(hT:T.length=10)(hq:qs.length=23)(vd':Int)(ds':List Value)(hd:ds.length=14)(hd':ds'.length=14):(z5 T vn q vt gl k hs qs eb dp left uV hard done vd ds).take 46++(.int .i64 vd'::ds')++(z5 T vn q vt gl k hs qs eb dp left uV hard done vd ds).drop (46+(.int .i64 vd'::ds':List Value).length)=z5 T vn q vt gl k hs qs eb dp left uV hard done vd' ds':=by
 rw[List.drop_of_length_le (by rw[Ca hT hq];simp;omega),List.append_nil];have e:(z5 T vn q vt gl k hs qs eb dp left uV hard done vd ds).take 46=T++(qC vn q++[vt,.pointer (some ⟨gl,0,none⟩),.int .i64 k,hs])++(qs++[.bool eb,GR dp,.int .i64 left,.int .i64 uV,.bool hard,.bool done]):=by rw[show(46:Nat)=17+29 from J,List.take_add,Pb hT hq,Ec hT hq,show(29:Nat)=qs.length+6 by omega,List.take_append,List.take_of_length_le (show qs.length<=qs.length+6 by omega)];simp
 rw[e];simp[z5]
end
structure xo (w:World) (g gl:Nat) (vn:Value) (x:Xc) (hs:Value) (eb:Bool) (qs:List Value) (dp:Option Nat):Prop where
 b:∃T vt ds,F w g 177 (z5 T vn x.q vt gl x.k hs qs eb dp x.left x.uV x.hard x.done x.vd ds)/\T.length=10/\T[4]?=some (.int .i64 x.cl)/\T[7]?=some (.bool x.vc)/\T[9]?=some (.bool x.ed)/\MG w 0 vt x.tr/\vf w ds x.yr
 nm:Uq w vn x.q.name
 ql:qs.length=23
theorem Fr.uH(h:Fr S w w'):uK w w':=fun v n x=>h.own x cQ
theorem Fr.Jv{α:Type}{B:Nat}{e:TypeId}{k:Nat}{R:List Value->α->Prop}{v:Value}{l:List α}(h:Fr S w w')(ho:uY w B e k R v l)(he:¬Sy e):uY w' B e k R v l:=ho.uH (fun _ x=>h.own x he) (fun _ _ x=>x)
theorem Fr.yr{cs:List Value}{m:vU}(h:Fr S w w')(hm:vf w cs m):vf w' cs m:=by
 obtain⟨vq,va,vu,ve,U,X,h3,h4,h5,l⟩:=hm;have hq:¬Sy 28:=cQ;have hr:¬Sy 119:=cQ;exact⟨vq,va,vu,ve,U,X.uH (fun _ x=>h.own x hq) (fun _ _ x=>x.uH h.uH),h3.uH (fun _ x=>h.own x hr) (fun _ _ x=>x.uH h.uH),h4.uH (fun _ x=>h.own x hr) (fun _ _ x=>x.uH h.uH),h5.uH (fun _ x=>h.own x hr) (fun _ _ x=>x.uH h.uH),l⟩
theorem xo.lt{x:Xc}{dp:Option Nat}(h:xo w g gl vn x hs eb qs dp):g<w.heap.size:=by obtain⟨T,vt,ds,Z,_⟩:=h.b;exact Z.lt
theorem xo.fr{x:Xc}{dp:Option Nat}(h:xo w g gl vn x hs eb qs dp)(k:Fr S w w')(hg:¬S g):xo w' g gl vn x hs eb qs dp:=by
 obtain⟨T,vt,ds,Z,U,X,h3,h4,h5,h6⟩:=h.b;exact⟨⟨T,vt,ds,k.vj Z hg,U,X,h3,h4,k.Jv h5 cQ,k.yr h6⟩,h.nm.uH k.uH,h.ql⟩
theorem xo.G{x:Xc}{dp:Option Nat}(h:xo w g gl vn x hs eb qs dp)(k:al w w'):xo w' g gl vn x hs eb qs dp:=h.fr (S:=fun _=>False) (Fr.G k) (fun h=>h)
theorem xo.put{x x':Xc}{hs':Value}{eb':Bool}{qs':List Value}{dp dp':Option Nat}(h:xo w g gl vn x hs eb qs dp)(hg:w.grownBy w' (some g))(e1:x'.q=x.q)(e2:x'.tr=x.tr)(e3:x'.cl=x.cl)(e4:x'.vc=x.vc)(e5:x'.ed=x.ed)(e6:x'.yr=x.yr)(hq:qs'.length=23)
  (Z:∀T vt ds,T.length=10->ds.length=14->F w g 177 (z5 T vn x.q vt gl x.k hs qs eb dp x.left x.uV x.hard x.done x.vd ds)->F w' g 177 (z5 T vn x.q vt gl x'.k hs' qs' eb' dp' x'.left x'.uV x'.hard x'.done x'.vd ds)):xo w' g gl vn x' hs' eb' qs' dp':=by
 obtain⟨T,vt,ds,hb0,U,X,h3,h4,h5,h6⟩:=h.b;have fr:Fr (fun i=>i=g) w w':=Fr.grown hg hb0 (.inr (.inl J)) J;refine⟨⟨T,vt,ds,?_,U,?_,?_,?_,?_,?_⟩,?_,hq⟩
 ·rw[e1];exact Z T vt ds U h6.len hb0
 ·rw[e3];exact X
 ·rw[e4];exact h3
 ·rw[e5];exact h4
 ·rw[e2];exact fr.Jv h5 cQ
 ·rw[e6];exact fr.yr h6
 ·rw[e1];exact h.nm.uH fr.uH
def yN:List Ou->Nat
 |[]=>0
 |o::l=>(if o.kind=1\/o.kind=2 then 1 else 0)+yN l
theorem Hv:∀(a b:List Ou),yN (a++b)=yN a+yN b
 |[],b=>by simp[yN]
 |o::a,b=>by simp only[List.cons_append,yN,Hv a b];omega
def Xc.rest(x:Xc):Nat:=if x.done then 0 else(2-x.lg)+3*(x.tr.length-x.k-1)
def Xc.Tu(x:Xc):Nat:=if x.done then 0 else x.left.toNat+x.cl.toNat*x.rest
theorem Gu{x:Xc}(h:x.done=false):x.rest=(2-x.lg)+3*(x.tr.length-x.k-1):=by unfold Xc.rest;rw[h];rfl
theorem Vv{x:Xc}(h:x.done=false):x.Tu=x.left.toNat+x.cl.toNat*x.rest:=by unfold Xc.Tu;rw[h];rfl
theorem Qr{x:Xc}(h:x.done=true):x.rest=0:=by unfold Xc.rest;rw[h];rfl
theorem Qs{x:Xc}(h:x.done=true):x.Tu=0:=by unfold Xc.Tu;rw[h];rfl
structure Bf (x:Xc) (L:Lt) (r:XR) (t n h:Nat):Prop where
 tr:r.1.tr=x.tr
 cl:r.1.cl=x.cl
 q:r.1.q=x.q
 snt:r.1.uV=x.uV+yN r.2.2
 rst:yN r.2.2+r.1.rest<=n
 Tu:r.1.Tu<=t
 lg:r.1.lg<=2
 vd:r.1.done=true->r.1.vd≠0
 us:r.2.1.us<=L.us+2
 ds:r.2.1.ds=L.ds
 hd:r.1.d.uR.length<=h
theorem Bf.mono{x:Xc}{L:Lt}{r:XR}{t n t' n' h':Nat}(e:Bf x L r t n h)(ht:t<=t')(hn:n<=n')(hh:h<=h'):Bf x L r t' n' h':=
 ⟨e.tr,e.cl,e.q,e.snt,Nat.le_trans e.rst hn,Nat.le_trans e.Tu ht,e.lg,e.vd,e.us,e.ds,Nat.le_trans e.hd hh⟩
theorem Bf.of{x y:Xc}{L:Lt}{r:XR}{t n:Nat}(e:Bf x L r t n h)(U:x.tr=y.tr)(X:x.cl=y.cl)(h3:x.q=y.q)(h4:x.uV=y.uV):Bf y L r t n h:=
 ⟨U▸e.tr,X▸e.cl,h3▸e.q,h4▸e.snt,e.rst,e.Tu,e.lg,e.vd,e.us,e.ds,e.hd⟩
theorem Tv{x:Xc}(h:x.st)(L:Lt):GQ (yz x L)=0:=by
 obtain⟨U,X⟩:=Gm (xG L 64512).2 (show(0:Int)<65536 by decide);exact h.err (xG (xG L 64512).2 65536).1 false U I
theorem aaW(x:Xc)(L:Lt)(lg:Nat):(ym x L lg).1.done=x.done/\(ym x L lg).1.tr=x.tr/\(ym x L lg).1.k=x.k/\(ym x L lg).1.cl=x.cl/\(ym x L lg).1.left=x.cl/\(ym x L lg).1.lg=lg/\(ym x L lg).1.uV=x.uV+1/\(ym x L lg).1.q=x.q/\(ym x L lg).2.1=Hu L:=by
 unfold ym;split
 ·rename_i h;subst h;exact⟨J,J,J,J,J,J,J,J,J⟩
 ·exact⟨J,J,J,J,J,J,J,J,J⟩
theorem MP{x:Xc}(h:x.st)(hd:x.done=false)(L:Lt)(lg:Nat)(hlg:lg<=2):Bf x L (ym x L lg) (x.cl.toNat*(1+(2-lg)+3*(x.tr.length-x.k-1))) (1+(2-lg)+3*(x.tr.length-x.k-1)) x.d.uR.length:=by
 have e0:=Tv h L;have eN:zw (yz x L)=(⟨yz x L,uA 2 (DA (yz x L)).length++DA (yz x L),0,false,[],vU.zero⟩,[⟨2,(yz x L).sv,(yz x L).port,[]⟩]):=by unfold zw;rw[if_pos e0]
 have hm:x.cl.toNat*(1+(2-lg)+3*(x.tr.length-x.k-1))=x.cl.toNat+x.cl.toNat*((2-lg)+3*(x.tr.length-x.k-1)):=by rw[Nat.add_assoc,Nat.mul_add,Nat.mul_one]
 have Z:yN (ym x L lg).2.2=1:=by
  unfold ym;split
  ·rw[eN];rfl
  ·rfl
 have hh:(ym x L lg).1.d.uR.length<=x.d.uR.length:=by
  unfold ym;split
  ·rw[eN];exact Nat.zero_le _
  ·exact Nat.le_refl _
 obtain⟨f1,f2,f3,f4,f5,f6,f7,f8,f9⟩:=aaW x L lg;have hdn:=f1.trans hd;refine⟨f2,f4,f8,by rw[f7,Z],?_,?_,by rw[f6];exact hlg,fun hh=>?_,by rw[f9];exact Nat.le_refl _,by rw[f9];rfl,hh⟩
 ·rw[Z,Gu hdn,f2,f3,f6];omega
 ·rw[Vv hdn,Gu hdn,f2,f3,f4,f5,f6,hm];exact Nat.le_refl _
 ·rw[hdn]at hh;cases hh
theorem Tw{x:Xc}(h:x.st)(hd:x.done=false)(hlg:x.lg<=2)(L:Lt):Bf x L (Db x L) (x.cl.toNat*(3*(x.tr.length-x.k))) (3*(x.tr.length-x.k)) x.d.uR.length:=by
 unfold Db;split
 ·
  rename_i z;refine(MP h hd L _ (by split<;>omega)).mono (Nat.mul_le_mul_left _ ?_) ?_ (Nat.le_refl _)
  ·split<;>omega
  ·split<;>omega
 ·exact⟨J,J,J,J,by rw[Qr J];exact Nat.zero_le _,by rw[Qs J];exact Nat.zero_le _,hlg,fun _=>by show(if x.hard then(5:Int)else 4)≠0;split<;>decide,Nat.le_add_right _ _,J,Nat.le_refl _⟩
theorem Ed{x:Xc}(h:x.st)(hd:x.done=false)(hlg:x.lg<=2)(L:Lt):Bf x L (wM x L) (x.cl.toNat*(3*(x.tr.length-x.k-1))) (3*(x.tr.length-x.k-1)) x.d.uR.length:=by
 have:=Tw (x:={x with k:=x.k+1}) ⟨h.ips,h.to1,h.to2,h.trl,h.err⟩ hd hlg L;refine Bf.of (y:=x) (this.mono ?_ ?_ (Nat.le_refl _)) J J J J
 ·exact Nat.mul_le_mul_left _ (by show 3*(x.tr.length-(x.k+1))<=_;omega)
 ·show 3*(x.tr.length-(x.k+1))<=_;omega
theorem Yq(q:Qn)(m:vU):zi q m≠0:=by
 unfold zi;split
 ·decide
 ·
  split
  ·decide
  ·split<;>decide
theorem ael{h:Hd}{c:Bool}(hv:xH h c e=2):c=false:=by
 unfold xH at hv;split at hv
 ·rename_i h;exact h.2
 ·
  (repeat' split at hv)<;>simp at hv
theorem aem{h:Hd}{c:Bool}(hv:xH h c e=3):e=true:=by
 unfold xH at hv;split at hv
 ·simp at hv
 ·
  split at hv
  ·simp at hv
  ·
   split at hv
   ·simp at hv
   ·
    split at hv
    ·rename_i h;exact h.1
    ·simp at hv
theorem Pc{x:Xc}(h:x.st)(hd:x.done=false)(hlg:x.lg<=2)(L:Lt)(m:vU):Bf x L (yX x L m) (x.cl.toNat*x.rest) x.rest x.d.uR.length:=by
 have hr:=Gu hd;unfold yX;split
 ·exact⟨J,J,J,J,by rw[Qr J];exact Nat.zero_le _,by rw[Qs J];exact Nat.zero_le _,hlg,fun _=>Yq _ _,Nat.le_add_right _ _,J,Nat.le_refl _⟩
 ·
  split
  ·rename_i hv;have hc:=ael hv;have hl:x.lg≠2:=iS;refine(MP h hd L 2 (Nat.le_refl _)).mono (Nat.mul_le_mul_left _ ?_) ?_ (Nat.le_refl _);all_goals omega
  ·
   split
   ·
    rename_i hv;have hc:=aem hv;have hl:x.lg=0:=by unfold Xc.yB at hc;simp at hc;exact hc.1
    refine(MP h hd L 1 I).mono (Nat.mul_le_mul_left _ ?_) ?_ (Nat.le_refl _);all_goals omega
   ·
    split
    ·refine(Bf.of (y:=x) (Ed (x:={x with hard:=true}) ⟨h.ips,h.to1,h.to2,h.trl,h.err⟩ hd hlg L) J J J J).mono (Nat.mul_le_mul_left _ ?_) ?_ (Nat.le_refl _);all_goals show 3*(x.tr.length-x.k-1)<=_;omega
    ·refine(Ed h hd hlg L).mono (Nat.mul_le_mul_left _ ?_) ?_ (Nat.le_refl _);all_goals omega
theorem Hw(d:Dl)(e:Ev):yN (vM d e).2=0:=by
 unfold vM
 (repeat' split)<;>rfl
theorem Vw(d:Dl):yN (xU d).2=0:=by
 unfold xU;split<;>rfl
theorem Bf.Cm{x:Xc}{L:Lt}{r:XR}{t n:Nat}(e:Bf x L r t n h){o:List Ou}(ho:yN o=0):Bf x L (EU o r) t n h:=
 ⟨e.tr,e.cl,e.q,by show r.1.uV=x.uV+yN (o++r.2.2);rw[Hv,ho,Nat.zero_add];exact e.snt,by show yN (o++r.2.2)+r.1.rest<=n;rw[Hv,ho,Nat.zero_add];exact e.rst,e.Tu,e.lg,e.vd,e.us,e.ds,e.hd⟩
theorem Bf.same{x y:Xc}{L:Lt}{o:List Ou}{t:Nat}(U:y.tr=x.tr)(X:y.cl=x.cl)(h3:y.q=x.q)(h4:y.uV=x.uV)(h5:y.rest=x.rest)(h6:y.Tu<=t)(h7:y.lg<=2)(h8:y.done=true->y.vd≠0)(h9:y.d.uR.length<=h)(ho:yN o=0):Bf x L (y,L,o) t x.rest h:=
 ⟨U,X,h3,by show y.uV=x.uV+yN o;omega,by show yN o+y.rest<=x.rest;omega,h6,h7,h8,Nat.le_add_right _ _,J,h9⟩
theorem Yr{x:Xc}(h:x.done=false->x.st)(hl:x.done=false->1<=x.left)(hlg:x.lg<=2)(hv:x.done=true->x.vd≠0)(L:Lt)(e:Ev):Bf x L (xI x L e) (x.Tu-(if e.kind=1 then 1 else 0)) x.rest (x.d.uR.length+e.data.length):=by
 cases hd:x.done with
 |true=>unfold xI;rw[if_pos hd];exact Bf.same J J J J J (by rw[Qs hd];exact Nat.zero_le _) hlg hv (Nat.le_add_right _ _) J
 |false=>
 have h:=h hd;have hr:=Gu hd;have hp:=Vv hd;have hl1:=hl hd;have hx:=Tk x.d e;have hN:=Ed (x:={x with left:=x.left-1}) ⟨h.ips,h.to1,h.to2,h.trl,h.err⟩ hd hlg L;have hM:x.cl.toNat*(3*(x.tr.length-x.k-1))<=x.cl.toNat*x.rest:=Nat.mul_le_mul_left _ I;unfold xI;rw[if_neg (by rw[hd];decide)];split
 ·
  split
  ·
   rename_i z;split
   ·
    have hN:=Ed (x:={x with left:=x.left-1,d:=(xU x.d).1}) ⟨h.ips,h.to1,h.to2,h.trl,h.err⟩ hd hlg L;refine(Bf.of (y:=x) (hN.Cm (Vw x.d)) J J J J).mono ?_ ?_ ?_
    ·exact sF
    ·exact te
    ·show(xU x.d).1.uR.length<=_;unfold xU;split<;>exact Nat.le_add_right _ _
   ·exact pX
  ·
   rename_i z;split
   ·
    refine(Bf.of (y:=x) ((Pc (x:={x with d:=(vM x.d e).1}) ⟨h.ips,h.to1,h.to2,h.trl,h.err⟩ hd hlg L _).Cm (Hw x.d e)) J J J J).mono ?_ ?_ hx
    ·show x.cl.toNat*x.rest<=_;omega
    ·exact Nat.le_refl _
   ·
    split
    ·
     refine(Bf.of (y:=x) ((Ed (x:={x with d:=(vM x.d e).1}) ⟨h.ips,h.to1,h.to2,h.trl,h.err⟩ hd hlg L).Cm (Hw x.d e)) J J J J).mono ?_ ?_ hx
     ·exact sF
     ·exact te
    ·exact Bf.same J J J J J eQ hlg hv hx (Hw x.d e)
 ·
  split
  ·
   rename_i z;split
   ·
    refine(Bf.of (y:=x) hN J J J J).mono ?_ ?_ (Nat.le_add_right _ _)
    ·exact sF
    ·exact te
   ·exact pX
  ·
   rename_i z;split
   ·refine(Pc h hd hlg L _).mono ?_ (Nat.le_refl _) (Nat.le_add_right _ _);omega
   ·exact Bf.same J J J J J eQ hlg hv (Nat.le_add_right _ _) J
theorem aaX(cl:Int)(vc ed:Bool)(q:Qn)(tr:List vG)(L:Lt)(h:(vN (vW q 0 ed) false).2=0->(Dc cl vc ed q tr).st):Bf (Dc cl vc ed q tr) L (BL cl vc ed q tr L) (cl.toNat*(3*tr.length)) (3*tr.length) 0:=by
 unfold BL;split
 ·exact⟨J,J,J,J,by rw[Qr J];exact Nat.zero_le _,by rw[Qs J];exact Nat.zero_le _,Nat.zero_le _,fun _=>by show(3:Int)≠0;decide,Nat.le_add_right _ _,J,Nat.le_refl _⟩
 ·rename_i he;exact Tw (h (Decidable.not_not.1 he)) J (Nat.zero_le _) L
theorem TA(x:Xc)(L:Lt)(lg:Nat):(ym x L lg).2.2.length<=1:=by
 unfold ym;split
 ·exact aaN _
 ·exact Nat.le_refl _
theorem BO(x:Xc)(L:Lt):(Db x L).2.2.length<=1:=by
 unfold Db;split
 ·exact TA _ _ _
 ·exact Nat.zero_le _
theorem Gv(x:Xc)(L:Lt)(m:vU):(yX x L m).2.2.length<=1:=by
 unfold yX
 (repeat' split)<;>first|exact TA _ _ _|exact BO _ _|exact Nat.zero_le _
theorem Pd(x:Xc)(L:Lt)(e:Ev):(xI x L e).2.2.length<=2:=by
 have U:=Jr x.d e;have X:=Js x.d;unfold xI
 (repeat' split)<;>first
  |exact Nat.zero_le _
  |(show(_++(wM _ L).2.2).length<=2;rw[List.length_append];have:∀y,(wM y L).2.2.length<=1:=fun y=>BO _ _;exact Nat.add_le_add aW (this _))
  |(show(_++(yX _ L _).2.2).length<=2;rw[List.length_append];exact Nat.add_le_add U (Gv _ _ _))
  |exact Nat.le_succ_of_le U
  |exact Nat.le_succ_of_le (BO _ _)
  |exact Nat.le_succ_of_le (Gv _ _ _)
end Go.Proofs.YthnbcmlnpdabhaaGreat
