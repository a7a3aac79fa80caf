/-
  Layer 26 (chain),plain:the records that are a name's,its first link,and what the chain leads to.
-/
import Derived.Test.YthnbcmlnpdabhaaGreatICz
namespace Go.Proofs.YthnbcmlnpdabhaaGreat
open _root_.Go.Proofs.Tryz
set_option maxHeartbeats 8000000
open Go.RowKit
set_option linter.unusedVariables false
variable {S:Nat->Prop} {w w':World} {e eb:Bool} {g gl h:Nat} {vn hs:Value} {qs:List Value}
def Sm(n:List (List UInt8))(k c:Int)(r:RR):Bool:=decide (r.E=k)&&(decide (r.N=c)&&decide (xL r.name=xL n))
def zy(l:List RR)(n:List (List UInt8))(k c:Int):List RR:=l.filter (Sm n k c)
def yB(E N:Int)(n:List (List UInt8)):List RR->Nat->Int->Int
 |[],_,i=>i
 |r::l,k,i=>yB E N n l (k+1) (if i<0/\r.E≠E/\Sm n 5 N r=true then k else i)
theorem Oh(E N:Int)(n:List (List UInt8))(b:List RR):∀(a:List RR) (k:Nat) (i:Int),yB E N n (a++b) k i=yB E N n b (k+a.length) (yB E N n a k i)
 |[],k,i=>rfl
 |r::a,k,i=>by
  show yB E N n (a++b) (k+1) _=_;rw[Oh E N n b a (k+1)];rw[List.length_cons,show k+1+a.length=k+(a.length+1)by omega];rfl
structure Fnd where
 name:List (List UInt8)
 an7:List RR
 ak:Option Int
 ars:Nat
def yN(t:Option Int)(n:Int):Option Int:=match t with
 |none=>some n
 |some m=>if n<m then some n else some m
def wX(q:Qn)(l:List RR):Nat->Nat->List (List UInt8)->Option Int->Except Int Fnd
 |f,k,n,t=>match zy l n q.E q.N with
  |r::rs=>.ok ⟨n,r::rs,(r::rs).foldl (fun t r=>yN t r.ak) t,k⟩
  |[]=>match zy l n 5 q.N with
   |[]=>.error 11
   |r::_=>match f with
    |0=>.error 15
    |f+1=>wX q l f (k+1) r.tg (yN t r.ak)
theorem Sn(E N:Int)(n:List (List UInt8)):∀(l:List RR) (k:Nat),zy l n E N=[]->match zy l n 5 N with
  |[]=>yB E N n l k (-1)= -1
  |r::_=>∃j:Nat,yB E N n l k (-1)=((k+j:Nat):Int)/\l[j]?=some r
 |[],k,_=>rfl
 |r::l,k,h=>by
  unfold zy at h;rw[List.filter_cons]at h;split at h
  ·cases h
  rename_i hn;have hn:Sm n E N r=false:=cG;unfold zy;rw[List.filter_cons];have ih:=Sn E N n l (k+1) h;unfold zy at ih;by_cases h5:Sm n 5 N r=true
  ·
   rw[if_pos h5];have hty:r.E≠E:=by intro e;unfold Sm at hn h5;rw[e]at hn;simp at hn h5;exact hn h5.2.1 h5.2.2
   refine⟨0,?_,J⟩;show yB E N n l (k+1) (if(-1:Int)<0/\r.E≠E/\Sm n 5 N r=true then(k:Int)else-1)=_;rw[if_pos ⟨ax,hty,h5⟩];exact ah1 E N n l (k+1) k I
  ·
   rw[if_neg h5];have e:yB E N n (r::l) k (-1)=yB E N n l (k+1) (-1):=by show yB E N n l (k+1) (if(-1:Int)<0/\r.E≠E/\Sm n 5 N r=true then(k:Int)else-1)=_;rw[if_neg (fun h=>h5 h.2.2)]
   rw[e];cases hf:List.filter (Sm n 5 N) l with
   |nil=>rw[hf]at ih;exact ih
   |cons x xs=>rw[hf]at ih;obtain⟨j,U,X⟩:=ih;exact⟨j+1,by rw[U];congr 1;omega,fW⟩
where
 ah1 (E N:Int) (n:List (List UInt8)):∀(l:List RR) (k:Nat) (i:Int),0<=i->yB E N n l k i=i
  |[],k,i,_=>rfl
  |r::l,k,i,h=>by
   show yB E N n l (k+1) (if i<0/\r.E≠E/\Sm n 5 N r=true then(k:Int)else i)=i;rw[if_neg (fun h'=>by omega)];exact ah1 E N n l (k+1) i h
set_option maxRecDepth 100000
set_option linter.unusedSimpArgs false
def abG(rs:List RR)(i:Int)(w:World)(e:Ending)(w':World):Prop:=∃A c,e= .returned (.tuple #[.slice A rs.length c,.int .i64 i])/\uD w' w.heap.size (.slice A rs.length c) rs/\al w w'
theorem Z7(n:List (List UInt8))(k c:Int)(r:RR):Sm n k c r=(decide (r.E=k)&&(decide (r.N=c)&&decide (xL r.name=xL n))):=rfl
theorem So:(prog.info? 119).map (·.size)=some 33:=by kernel_rfl
theorem Il:(prog.info? 119).map (fun i=>(i.zero,i.size,i.bytes))=some (some (.agg vG.toArray),33,208):=by kernel_rfl
theorem Z8(vq:Value)(E N:Int)(A Al:Option Addr)(c cA:Nat)(n:List (List UInt8))(l:List RR)(w:World)(hN:xj w A c n)(hL:uD w 0 (.slice Al l.length cA) l)(hl:l.length<=65535):
  Calls prog 199 #[.agg #[vq,.int .i64 E,.int .i64 N],.slice A n.length c,.slice Al l.length cA] w (abG (zy l n E N) (yB E N n l 0 (-1)) w):=by
 have HX:Below w.heap.size w (w.alloc (.cells #[vq,.int .i64 E,.int .i64 N] 28)):=gj;have BX:=Z.new w 28 [vq,.int .i64 E,.int .i64 N];go_enter func199,ntmps199;go_wp2_with fail;go_loopw[8,9,14] (fun rv lv iv wr=>∃k:Nat,k<=l.length/\iv= .int .i64 k/\lv= .int .i64 (yB E N n (l.take k) 0 (-1))/\uD wr w.heap.size rv (zy (l.take k) n E N)/\al w wr/\Z wr w.heap.size 28 [vq,.int .i64 E,.int .i64 N]) (fun _ _ iv _=>l.length-(intOf iv).toNat)
 case atStart=>exact⟨0,Nat.zero_le _,J,J,uD.nil _ _,HX,BX⟩
 clear HX BX;obtain⟨k,O,rfl,rfl,ho,hB,BX⟩:=hrel;obtain⟨Ak,ck,hv⟩:=ho.form;subst hv;by_cases Hh:k<l.length
 case neg=>have tQ:¬(k:Int)<l.length:=I;rw[List.take_of_length_le I]at ho⊢;go_wp2_with fail;go_ret2;exact⟨Ak,ck,J,ho,hB⟩
 have tQ:(k:Int)<l.length:=I;obtain⟨gs,hA,hgs,hr⟩:=hL.ud (fun _ _ h=>h.len) I;obtain⟨cx,hcx,hce⟩:=hr k Hh;have hcx:=tX hcx hB hgs;subst hA;have hcl:=hce.len;have afx:=hce.one;rw[Nat.zero_add]at hcx;have l64:(0:Int)<=k:=I;have SF:Hid (zy (l.take (k+1)) n E N=zy (l.take k) n E N++(if Sm n E N l[k]=true then[l[k]]else[])):=Y eF;have SL:Hid (yB E N n (l.take (k+1)) 0 (-1)=if yB E N n (l.take k) 0 (-1)<0/\l[k].E≠E/\Sm n 5 N l[k]=true then(k:Int)else yB E N n (l.take k) 0 (-1)):=Y (by
  rw[List.take_succ_eq_append_getElem Hh,Oh,List.length_take,Nat.min_eq_left O,Nat.zero_add];rfl)
 obtain⟨vn,vt,vm,hcs,hwf,hnm,htg,hml,_⟩:=hce;obtain⟨An,cn,hv,hNn⟩:=hnm.form;subst hv;have e0:cx[0]?=some (.slice An l[k].name.length cn):=bI;have e1:cx[1]?=some (.int .i64 l[k].E):=bI;have e2:cx[2]?=some (.int .i64 l[k].N):=bI;have CE:Hid (wR w cx l[k]):=mx;have DS:Hid (∀W,al w W->Calls prog 218 #[.slice An l[k].name.length cn,.slice A n.length c] W (uf (.bool (decide (xL l[k].name=xL n))) W)):=Y (fun W F=>Ob An A l[k].name n cn c W (hNn.G F) (hN.G F));have HO:=Y ho;have aov:(zy (l.take k) n E N).length<=65535:=by exact sx
 clear hcs hwf hnm htg hml hNn ho hr hN hL;obtain⟨same,ahs⟩:∃b:Bool,decide (xL l[k].name=xL n)=b:=gp;have IR:Hid (∀t' c',Sm n t' c' l[k]=(decide (l[k].E=t')&&(decide (l[k].N=c')&&same))):=Y (fun t' c'=>by rw[Z7,ahs]);rw[ahs]at DS;clear ahs;obtain⟨R,hR⟩:=ao (zy (l.take k) n E N);rw[hR.out]at HO aov SF⊢;obtain⟨li,hli⟩:=ao (yB E N n (l.take k) 0 (-1));rw[hli.out]at SL⊢;have hrz:vG.length=33:=jG;have W1:Below wr.heap.size wr (wr.alloc (.cells vG.toArray 119)):=gj;generalize hrr:l[k]=r at*;clear hrr;generalize r.name.length=nl,r.E=rt,r.N=rc at*;go_wp2_with(first
  |(refine tO (.load 119 (.tmp 17)) rfl ?_;go_must(refine vM rfl 119 (.tmp 17) rfl gs (k*33) rfl cx hcx _ underlying119 rfl eG ?_))
  |(refine tO (.store 119 (.tmp 11) (.tmp 18)) rfl (ab rfl wr.heap.size 0 cx (Z.new wr 119 vG) I eG afx ?_)))
 intro w1 B1 g1 sw;clear sw;have B1':=xG B1 I;have K1:=tN W1 g1 W1.size (Nat.le_refl _);have H1:=tL hB hB.size K1;have BX2:=BX.G K1 BX.lt;have d0:=B1'.K 0 e0;have d1:=B1'.K 1 e1;have d2:=B1'.K 2 e2;have q1:=BX2.K 1 J;have q2:=BX2.K 2 J;have O1:=Y (uD.G HO.out K1);clear B1 g1 W1 hcx BX HO e0 e1 e2;have UN:Hid (Sm n E N r=false->¬(li<0/\rt≠E/\Sm n 5 N r=true)->yB E N n (l.take (k+1)) 0 (-1)=li/\zy (l.take (k+1)) n E N=R):=Y (fun U X=>⟨by rw[SL.out,if_neg X],by rw[SF.out,U];simp⟩);by_cases hc:rc=N
 case neg=>have hc':(rc !=N)=true:=iK;obtain⟨u1,u2⟩:=UN.out (by rw[IR.out,decide_eq_false hc];simp) (fun h=>by have:=h.2.2;rw[IR.out,decide_eq_false hc]at this;simp at this);have U1:=Y u1;have U2:=Y u2;clear u1 u2 hc UN SF SL;exact pM
 subst hc;have NC:Hid (same=false->yB E rc n (l.take (k+1)) 0 (-1)=li/\zy (l.take (k+1)) n E rc=R):=Y (fun h=>UN.out (by rw[IR.out,h];simp) (fun h'=>by have:=h'.2.2;rw[IR.out,h]at this;simp at this));by_cases ht:rt=E
 case pos=>
  subst ht;have SL2:Hid (yB rt rc n (l.take (k+1)) 0 (-1)=li):=Y (by rw[SL.out,if_neg (fun h=>h.2.1 J)]);have SF2:Hid (same=true->zy (l.take (k+1)) n rt rc=R++[r]):=Y (fun h=>by rw[SF.out,IR.out,h];simp);clear SL SF UN IR;go_wp2_with fail;refine(DS.out _ H1).mono ?_;rintro _ w2 ⟨rfl,b2⟩;have H2:=tL H1 H1.size b2;have BX3:=BX2.G b2 BX2.lt;have O2:=Y (uD.G O1.out b2);cases same with
  |false=>obtain⟨u1,u2⟩:=NC.out J;have U1:=Y u1;have U2:=Y u2;clear u1 u2 NC SF2 SL2;exact pL
  |true=>
   have U2:=Y (SF2.out J);clear NC SF2;have B2':=B1'.G b2 B1'.lt;have f1:=B2'.K 1 eH;have g1:=BX3.K 1 J;have CE2:=Y (CE.out.ue (ug.G H2));clear d0 d1 d2 q1 q2 b2 BX2 O1 H1 K1 B1' DS;go_wp2_with(first
    |(refine tO (.load 119 (.tmp 11)) rfl ?_;go_must(refine tP rfl _ _ rfl wr.heap.size 0 rfl B2' 33 I _ underlying119 rfl So cx (wg I) ?_))
    |(refine tO (.buildSlice 48 1 #[(0,.tmp 51)]) rfl ?_;go_must(refine Ck rfl 48 119 _ 33 208 underlying48 Il ax ax (.tmp 51) rfl cx rfl hcl ?_)))
   intro w3 B3 K3;have O3:=uD.G O2.out K3;have N3:=uy.ne O2.out (Nat.le_refl _);have H3:=tL H2 H2.size K3;have BX4:=BX3.G K3 BX3.lt;have CE3:=CE2.out.ue (ug.G K3);clear f1 g1 K3 O2 CE2 B2' H2 BX3;go_wp2_with(at_builtin;go_must(refine xS _ J _ _ 48 J 119 _ 33 208 underlying48 Il (by kernel_rfl) ax w.heap.size _ _ J O3 H3.size w2.heap.size cx r J B3 N3 hcl afx CE3 aJ I ?_));intro v5 w5 O5 g5;have hbs:=O3.base;have hso:ug w3 w5:=by exact tD
   have H5:=H3.grown g5 H3.size hbs;have BX5:Z w5 w.heap.size 28 [vq,.int .i64 rt,.int .i64 rc]:=by obtain⟨_,o4,_⟩:=O3;exact vD BX4 o4 ax g5
   have O6:uD w5 w.heap.size v5 (R++[r]):=lJ;clear g5 O3 O5 H3 B3 N3 BX4 hso;go_wp2_with fail;go_roundw
   case rel=>exact⟨k+1,I,fU,by rw[SL2.out],by rw[U2.out];exact O6,H5,BX5⟩
   case measure=>simp[intOf];omega
 have ht':(rt !=E)=true:=ng;have aES:(rt==E)=false:=ng;have SF2:Hid (zy (l.take (k+1)) n E rc=R):=Y eI;by_cases h5:rt=5
 case neg=>have h5':(rt !=5)=true:=ni;obtain⟨u1,u2⟩:=UN.out (by rw[IR.out,decide_eq_false ht];simp) (fun h=>by have:=h.2.2;rw[IR.out,decide_eq_false h5]at this;simp at this);have U1:=Y u1;have U2:=Y u2;clear u1 u2 h5 ht UN SF SL NC SF2;exact pM
 by_cases aoE:li<0
 case neg=>have awQ:decide (0<=li)=true:=az;have aAI:0<=li:=I;have U1:Hid (yB E rc n (l.take (k+1)) 0 (-1)=li):=Y (by rw[SL.out,if_neg (fun h=>aoE h.1)]);have U2:=SF2;subst h5;clear ht UN SF SL NC SF2 aoE;exact pM
 have awQ:decide (0<=li)=false:=az;subst h5;have SL2:Hid (same=true->yB E rc n (l.take (k+1)) 0 (-1)=k):=Y (fun h=>by rw[SL.out,if_pos ⟨aoE,ht,by rw[IR.out,h];simp⟩]);clear SL SF UN IR ht;go_wp2_with fail;refine(DS.out _ H1).mono ?_;rintro _ w2 ⟨rfl,b2⟩;have H2:=tL H1 H1.size b2;have BX3:=BX2.G b2 BX2.lt;have O2:=Y (uD.G O1.out b2);cases same with
 |false=>obtain⟨u1,u2⟩:=NC.out J;have U1:=Y u1;have U2:=Y u2;clear u1 u2 NC SF2 SL2;exact pL
 |true=>have U1:=Y (SL2.out J);have U2:=SF2;have B2':=B1'.G b2 B1'.lt;have f1:=B2'.K 1 eH;have g1:=BX3.K 1 J;clear NC SL2 d0 d1 d2 q1 q2 b2 BX2 O1 H1 K1 B1' DS;exact pL
def LY(gt gc:Nat)(t:Option Int)(w:World)(e:Ending)(w':World):Prop:=e= .returned (.tuple #[])/\∃w1 u,w.grownBy w1 (some gt)/\w1.grownBy w' (some gc)/\Z w1 gc 4 [.bool u]/\Z w' gt 3 [.int .i64 (t.getD 0)]/\Z w' gc 4 [.bool t.isSome]
theorem Xo(n:Int)(gt gc:Nat)(t:Option Int)(w:World)(U:Z w gt 3 [.int .i64 (t.getD 0)])(X:Z w gc 4 [.bool t.isSome])(hne:gt≠gc):
  Calls prog 198 #[.int .i64 n,.pointer (some ⟨gc,0,none⟩),.pointer (some ⟨gt,0,none⟩)] w (LY gt gc (yN t n) w):=by
 have f1:=U.frozen 0;have f2:=X.frozen 0;have SET:Hid (∀u:Option Int,u=some n->LY gt gc u w (.returned (.tuple #[])) ((w.setCell ⟨gt,0,none⟩ (.int .i64 n)).setCell ⟨gc,0,none⟩ (.bool true))):=Y (fun u hu=>by
  subst hu;exact⟨J,_,t.isSome,uq (World.grownBy.refl _ _) 0 _,uq (World.grownBy.refl _ _) 0 _,X.yG (p:=⟨gt,0,none⟩) (Ne.symm hne) _,(U.set 0 _).yG (p:=⟨gc,0,none⟩) hne _,(X.yG (p:=⟨gt,0,none⟩) (Ne.symm hne) _).set 0 _⟩)
 have atm:Hid (LY gt gc t w (.returned (.tuple #[])) w):=Y ⟨J,w,t.isSome,World.grownBy.refl _ _,World.grownBy.refl _ _,X,U,X⟩;cases t with
 |none=>have c1:=U.K 0 (u:=.int .i64 0) J;have c2:=X.K 0 (u:=.bool false) J;have S:=Y (SET.out (yN none n) J);exact sI
 |some m=>
  have c1:=U.K 0 (u:=.int .i64 m) J;have c2:=X.K 0 (u:=.bool true) J;by_cases Hh:n<m
  ·have S:=Y (SET.out (yN (some m) n) (if_pos Hh));exact sI
  ·have e:yN (some m) n=some m:=if_neg Hh;rw[e];clear U X SET e;go_enter func198,ntmps198;go_wp2_with fail;go_end0;exact atm.out
def Ux(o:Except Int Fnd)(w:World)(e:Ending)(w':World):Prop:=match o with
 | .ok f=>∃An cn A c,e= .returned (.tuple #[.agg #[.slice An f.name.length cn,.slice A f.an7.length c,.int .i64 (f.ak.getD 0),.int .i64 f.ars],.int .i64 0])/\wh w' (.slice An f.name.length cn) f.name/\uD w' 0 (.slice A f.an7.length c) f.an7/\al w w'
 | .error x=>∃An nn cn A n c a b,e= .returned (.tuple #[.agg #[.slice An nn cn,.slice A n c,.int .i64 a,.int .i64 b],.int .i64 x])/\al w w'
theorem Oi:(prog.info? 263).map (·.size)=some 4:=by kernel_rfl
theorem GK(q:Qn)(l:List RR)(f k:Nat)(n:List (List UInt8))(t:Option Int):wX q l f k n t=match zy l n q.E q.N with
  |r::rs=>.ok ⟨n,r::rs,(r::rs).foldl (fun t r=>yN t r.ak) t,k⟩
  |[]=>match zy l n 5 q.N with
   |[]=>.error 11
   |r::_=>match f with
    |0=>.error 15
    |f+1=>wX q l f (k+1) r.tg (yN t r.ak):=by
 conv=>lhs;unfold wX
 all_goals rfl
theorem Uy(q:Qn)(A Al:Option Addr)(c cA:Nat)(l:List RR)(w:World)(hN:xj w A c q.name)(hn:q.name.length<=100000)(hL:uD w 0 (.slice Al l.length cA) l)(hl:l.length<=65535):
  Calls prog 157 #[.agg #[.slice A q.name.length c,.int .i64 q.E,.int .i64 q.N],.slice Al l.length cA] w (Ux (wX q l 16 0 q.name none) w):=by
 obtain⟨afW,hF⟩:=ao (wX q l 16 0 q.name none);rw[hF.out];have LK:=Y (fun(An:Option Addr) (cn:Nat) (n:List (List UInt8)) (W:World) (F:al w W) (h:xj w An cn n)=>Z8 (.slice A q.name.length c) q.E q.N An Al cn cA n l W (h.G F) (hL.G F) hl);have LE:=Y (fun n gt gc t W U X h3=>Xo n gt gc t W U X h3);obtain⟨fz,hfz⟩:∃fz:List Value,fz=[.slice none 0 0,.slice none 0 0,.int .i64 0,.int .i64 0]:=gp;obtain⟨aeR,hX⟩:∃aeR,(((w.alloc (.cells #[.slice A q.name.length c,.int .i64 q.E,.int .i64 q.N] 28)).alloc (.cells #[.slice none 0 0,.slice none 0 0,.int .i64 0,.int .i64 0] 263)).alloc (.cells #[.int .i64 0] 3)).alloc (.cells #[.bool false] 4)=aeR:=gp;have HX:al w aeR:=by rw[<-hX];exact((((Below.refl _ _).alloc (Nat.le_refl _) _).alloc ap _).alloc az _).alloc az _
 have X1:Z aeR w.heap.size 28 [.slice A q.name.length c,.int .i64 q.E,.int .i64 q.N]:=by rw[<-hX];exact(((Z.new w _ _).alloc _).alloc _).alloc _
 have X2:Z aeR (w.heap.size+1) 263 fz:=by rw[<-hX,hfz];exact((Z.vP _ _ _ _ ap).alloc _).alloc _
 have X3:Z aeR (w.heap.size+1+1) 3 [.int .i64 ((none:Option Int).getD 0)]:=kU;have X4:Z aeR (w.heap.size+1+1+1) 4 [.bool (none:Option Int).isSome]:=lZ;have hX':=Y hX;clear hX;go_enter func157,ntmps157;go_wp2_with fail;rw[hX'.out];have X:w.heap.size<=w.heap.size+1:=I;have h3:w.heap.size<=w.heap.size+1+1:=I;have h4:w.heap.size<=w.heap.size+1+1+1:=I;have n34:w.heap.size+1+1≠w.heap.size+1+1+1:=I;have n13:w.heap.size≠w.heap.size+1+1:=I;have n14:w.heap.size≠w.heap.size+1+1+1:=I;have n23:w.heap.size+1≠w.heap.size+1+1:=I;have n24:w.heap.size+1≠w.heap.size+1+1+1:=I;clear hX';generalize w.heap.size+1+1+1=gc at*;generalize w.heap.size+1+1=gt at*;generalize w.heap.size+1=g2 at*;have hfl:fz.length=4:=by rw[hfz];rfl
 clear hfz;go_loopw[6,10] (fun nv kv wr=>∃(k:Nat) (n:List (List UInt8)) (An:Option Addr) (cn:Nat) (t:Option Int),nv= .slice An n.length cn/\kv= .int .i64 k/\k<=16/\xj w An cn n/\n.length<=100000/\Hid (wX q l (16-k) k n t=afW)/\Z wr gt 3 [.int .i64 (t.getD 0)]/\Z wr gc 4 [.bool t.isSome]/\Z wr w.heap.size 28 [.slice A q.name.length c,.int .i64 q.E,.int .i64 q.N]/\Z wr g2 263 fz/\al w wr) (fun _ kv _=>17-(intOf kv).toNat)
 case atStart=>exact⟨0,q.name,A,c,none,J,J,I,hN,hn,hF,X3,X4,X1,X2,HX⟩
 clear X1 X2 X3 X4 HX hN hn;obtain⟨k,n,An,cn,t,rfl,rfl,O,hNm,hnl,HF,B3,B4,B1,B2,hB⟩:=hrel;have LKn:=Y (LK.out An cn n wr hB hNm);generalize hQ:[Value.slice A q.name.length c,.int .i64 q.E,.int .i64 q.N]=Qc at*;have hQl:Qc.length=3:=by rw[<-hQ];rfl
 rw[GK]at HF;have HLK:=Y (Sn q.E q.N n l 0);obtain⟨li,hli⟩:∃li,yB q.E q.N n l 0 (-1)=li:=gp;rw[hli]at LKn HLK;clear hli hQ LK;go_wp2_with(refine tO (.load 28 (.tmp 2)) J ?_;go_must(refine tP J _ _ J w.heap.size 0 J B1 3 I _ underlying28 J xh Qc (wg I) ?_));refine LKn.out.mono ?_;rintro _ w1 ⟨Ar,cr,rfl,hR,b1⟩;have E1:=B1.G b1 B1.lt;have E2:=B2.G b1 B2.lt;have E3:=B3.G b1 B3.lt;have E4:=B4.G b1 B4.lt;have H1:=tL hB hB.size b1;have HR:Hid (uD w1 0 (.slice Ar (zy l n q.E q.N).length cr) (zy l n q.E q.N)):=Y (uy.zero hR);clear b1 B1 B2 B3 B4 hB LKn hR;obtain⟨rs,hrs⟩:=ao (zy l n q.E q.N);rw[hrs.out]at HF HR⊢;cases rs with
 |cons r0 rs=>
  have agE:0<(r0::rs).length:=ap;have HF2:Hid (afW= .ok ⟨n,r0::rs,(r0::rs).foldl (fun t r=>yN t r.ak) t,k⟩):=Y (by rw[<-HF.out]);have hrl:(r0::rs).length<=65535:=by rw[<-hrs.out];exact Nat.le_trans (List.length_filter_le _ _) hl
  clear HF HLK hrs;generalize r0::rs=R at*;go_wp2_with fail;obtain⟨wo,hwo⟩:∃wo:World,w1=wo:=gp;subst hwo;go_loopw[32] (fun iv wx=>∃(j:Nat) (u:Option Int),j<=R.length/\iv= .int .i64 j/\Hid ((R.take j).foldl (fun t r=>yN t r.ak) t=u)/\Z wx gt 3 [.int .i64 (u.getD 0)]/\Z wx gc 4 [.bool u.isSome]/\Z wx g2 263 fz/\al w wx/\Hid (uD wx 0 (.slice Ar R.length cr) R)) (fun iv _=>R.length-(intOf iv).toNat)
  case atStart=>exact⟨0,t,Nat.zero_le _,J,Y J,E3,E4,E2,H1,HR⟩
  clear E1 E2 E3 E4 H1 HR;obtain⟨j,u,hj,rfl,HU,D3,D4,D2,hB,HR⟩:=hrel;by_cases Hh:j<R.length
  case pos=>
   have tQ:(j:Int)<R.length:=I;obtain⟨gs,hA,hgs,hr⟩:=uy.ud (fun _ _ h=>h.len) HR.out agE;obtain⟨cx,hcx,hce⟩:=hr j Hh;rw[Nat.zero_add]at hcx;have hcl:=hce.len;have afx:=hce.one;have e3:cx[3]?=some (.int .i64 R[j].ak):=by obtain⟨vn,vt,vm,hcs,_⟩:=hce;rw[hcs];rfl
   have HU2:Hid ((R.take (j+1)).foldl (fun t r=>yN t r.ak) t=yN u R[j].ak):=Y (by rw[List.take_succ_eq_append_getElem Hh,List.foldl_append,HU.out];rfl);subst hA;have hrz:vG.length=33:=jG;have W1:Below wr.heap.size wr (wr.alloc (.cells vG.toArray 119)):=gj;clear hce hr HU;generalize R[j].ak=tl at*;go_wp2_with(first
    |(refine tO (.load 119 (.tmp 34)) rfl ?_;go_must(refine vM rfl 119 (.tmp 34) rfl gs (j*33) rfl cx hcx _ underlying119 rfl eG ?_))
    |(refine tO (.store 119 (.tmp 14) (.tmp 35)) rfl (ab rfl wr.heap.size 0 cx (Z.new wr 119 vG) I eG afx ?_)))
   intro w3 B5 g5 sw;clear sw;have B5':=xG B5 I;have K1:=tN W1 g5 W1.size (Nat.le_refl _);have d3:=B5'.K 3 e3;replace D2:=D2.G K1 D2.lt;replace D3:=D3.G K1 D3.lt;replace D4:=D4.G K1 D4.lt;replace HR:=Y (uD.G HR.out K1);replace hB:=tL hB hB.size K1;clear B5 B5' g5 W1 K1 hcx e3;go_wp2_with fail;refine(LE.out _ _ _ _ _ D3 D4 n34).mono ?_;rintro _ w5 ⟨rfl,w4,u4,g4,g5,C4,F3,F4⟩;have G2:=(D2.grown g4 (by simp;exact n23)).grown g5 (by simp;exact n24);have HB5:=tN (tN hB g4 hB.size h3) g5 (Nat.le_trans hB.size g4.size) h4;have HR5:=Y ((uD.uG HR.out g4 D3 ax ax).uG g5 C4 ax ax);clear g4 g5 C4 D2 D3 D4 HR hB d3;go_wp2_with fail;go_roundw
   case rel=>exact⟨j+1,yN u tl,I,fU,HU2,F3,F4,G2,HB5,HR5⟩
   case measure=>simp[intOf];omega
  case neg=>
   have tQ:¬(j:Int)<R.length:=I;rw[List.take_of_length_le I]at HU;have HF3:Hid (afW= .ok ⟨n,R,u,k⟩):=Y (by rw[HF2.out,HU.out]);have CL:=Y (fun W F=>Dj An cn n W (hNm.G F) hnl);have RB:Hid (∀(Ac:Option Addr) (cc:Nat) (W:World),(Instr.build 263 #[(0,.slice Ac n.length cc),(1,.slice Ar R.length cr),(2,.int .i64 (u.getD 0)),(3,.int .i64 k)]).run prog W= .ok (.agg [Value.slice Ac n.length cc,.slice Ar R.length cr,.int .i64 (u.getD 0),.int .i64 k].toArray) W):=Y (fun Ac cc W=>by kernel_rfl);clear HF2 HU D4 agE LE;obtain⟨uv,huv⟩:=ao (u.getD 0);rw[huv.out]at D3 RB;go_wp2_with fail;refine wp_region_held_drew (S:=fun V=>Z V gt 3 [.int .i64 uv]) (by kernel_rfl) D3.drew (fun M=>?_);have HD:Below wr.heap.size wr wr.drew:=iH;refine uh M 4 [0,2,3,4] J (by kernel_rfl) (fun _ _ _ _ _ h=>h) J J ?_;repeat(refine aj _ ?_;simp only[z])
   (refine ah _ J J (fun V hV=>(ul 3 (.tmp 7) ⟨gt,0,none⟩ J J (tV underlying3 J (hV.K 0 J)))) ?_;simp only[z])
   repeat(refine aj _ ?_;simp only[z])
   simp only[vx];refine uO 1 (some 42) 73 #[.slice An n.length cn] (by kernel_rfl) J J (by kernel_rfl) bm (CL.out _ (tL hB hB.size HD)) ?_;rintro _ w6 ⟨Ac,cc,rfl,o6,b6⟩;have M:=M.G b6 M.lt;have HD:=tL HD HD.size b6;refine⟨_,J,M,?_⟩;simp only[z];refine uh M 1 [5] J (by kernel_rfl) (fun _ _ _ _ _ h=>h) J J ?_
   (refine ah (.agg [Value.slice Ac n.length cc,.slice Ar R.length cr,.int .i64 uv,.int .i64 k].toArray) J J (fun V hV=>(z6 263 _ J #[(0,.slice Ac n.length cc),(1,.slice Ar R.length cr),(2,.int .i64 uv),(3,.int .i64 k)] (by kernel_rfl) (RB.out Ac cc V))) ?_;simp only[z])
   simp only[vx];refine vz 6 none 263 (.tmp 4) (.tmp 46) (by kernel_rfl) J J J (by kernel_rfl) g2 0 J [Value.slice Ac n.length cc,.slice Ar R.length cr,.int .i64 uv,.int .i64 k] J (D2.G HD D2.lt) eJ Oi aO ?_;intro w7 B7 g7 s7;rw[List.take_zero,List.nil_append,Nat.zero_add]at B7;have B7':=xG B7 (Nat.le_of_eq hfl);have T7:wh w7 (.slice Ac n.length cc) n:=(ug.uG g7 (D2.G HD D2.lt) ax) _ _ (Cg o6);have R7:=uD.uG (uD.G HR.out HD) g7 (D2.G HD D2.lt) ax ax;have H7:=tN (tL hB hB.size HD) g7 (Nat.le_trans hB.size HD.size) X;have M:=M.grown g7 az;refine⟨M,?_⟩;simp only[z];refine uh M 1 [7] J (by kernel_rfl) (fun _ _ _ _ _ h=>h) J J ?_;repeat(refine aj _ ?_;simp only[z])
   simp only[vx];refine wpAnyH_done (by kernel_rfl) ?_ _;go_wp2_with fail;refine uH J g2 J B7' _ underlying263 J Oi J (.int .i64 0) J ?_;rw[HF3.out];exact⟨Ac,cc,Ar,cr,by rw[huv.out],T7,R7,H7⟩
 |nil=>
  have HK:=HLK.out hrs.out;clear HLK hrs HR;cases h5:zy l n 5 q.N with
  |nil=>
   rw[h5]at HK HF;have HF3:Hid (afW= .error 11):=Y (by rw[<-HF.out]);subst HK;have CL:=Y (fun W F=>Dj An cn n W (hNm.G F) hnl);have RB:Hid (∀(Ac:Option Addr) (cc:Nat) (W:World),(Instr.build 263 #[(0,.slice Ac n.length cc),(3,.int .i64 k)]).run prog W= .ok (.agg [Value.slice Ac n.length cc,.slice none 0 0,.int .i64 0,.int .i64 k].toArray) W):=Y (fun Ac cc W=>by kernel_rfl);clear HF h5 LE;go_wp2_with fail;refine(CL.out _ H1).mono ?_;rintro _ w6 ⟨Ac,cc,rfl,o6,b6⟩;have E2':=E2.G b6 E2.lt;have H6:=tL H1 H1.size b6;clear b6 E2 E3 E4 E1 H1;go_wp2_with(first
    |(refine tO (.build 263 #[(0,.tmp 50),(3,.tmp 51)]) rfl ?_;go_must(refine wl rfl 263 _ rfl #[(0,.slice Ac n.length cc),(3,.int .i64 k)] ea (RB.out Ac cc _) ?_))
    |(refine tO (.store 263 (.tmp 4) (.tmp 52)) rfl (ab rfl g2 0 [Value.slice Ac n.length cc,.slice none 0 0,.int .i64 0,.int .i64 k] E2' eJ Oi aO ?_)))
   intro w7 B7 g7 sw;clear sw;have B7':=xG (L:=[Value.slice Ac n.length cc,.slice none 0 0,.int .i64 0,.int .i64 k]) B7 (Nat.le_of_eq hfl);have H7:=tN H6 g7 H6.size X;go_wp2_with fail;refine uH J g2 J B7' _ underlying263 J Oi J (.int .i64 11) J ?_;exact tx
  |cons r tail=>
   rw[h5]at HK HF;obtain⟨j,hj,hr⟩:=HK;rw[Nat.zero_add]at hj;subst hj;obtain⟨hjl,hjr⟩:=List.getElem?_eq_some_iff.1 hr;have hj0:decide ((j:Int)<0)=false:=ap;have ak3:(j:Int)<l.length:=I;obtain⟨gs,hA,hgs,aht⟩:=uy.ud (fun _ _ h=>h.len) hL I;obtain⟨cx,hcx,hce⟩:=aht j hjl;rw[hjr]at hce;subst hA;rw[Nat.zero_add]at hcx;replace hcx:=tX hcx H1 hgs;obtain⟨vn,vt,vm,hcs,hwf,hnm,htg,hml,_⟩:=hce;obtain⟨At,ct,hv,hNt⟩:=htg.form;subst hv;have c3:=hcx 3 (.int .i64 r.ak) bI;have c22:=hcx 22 (.slice At r.tg.length ct) (by rw[hcs];exact AQ hwf);have htl:r.tg.length<=100000:=by obtain⟨h6,h7⟩:=wK htg.2;have:=zE r.tg;omega
   clear hcs hwf hnm htg hml aht hcx hr hjr h5;by_cases ar5:k=16
   case pos=>
    have hk':((k:Int)==16)=true:=az;have HF3:Hid (afW= .error 15):=Y (by rw[<-HF.out];subst ar5;rfl);have RB:Hid (∀(W:World),(Instr.build 263 #[]).run prog W= .ok (.agg [Value.slice none 0 0,.slice none 0 0,.int .i64 0,.int .i64 0].toArray) W):=Y (fun W=>by kernel_rfl);clear HF LE ar5;go_wp2_with(first
     |(refine tO (.build 263 #[]) rfl ?_;go_must(refine wl rfl 263 _ rfl #[] ea (RB.out _) ?_))
     |(refine tO (.store 263 (.tmp 4) (.tmp 55)) rfl (ab rfl g2 0 [Value.slice none 0 0,.slice none 0 0,.int .i64 0,.int .i64 0] E2 eJ Oi aO ?_)))
    intro w7 B7 g7 sw;clear sw;have B7':=xG (L:=[Value.slice none 0 0,.slice none 0 0,.int .i64 0,.int .i64 0]) B7 (Nat.le_of_eq hfl);have H7:=tN H1 g7 H1.size X;go_wp2_with fail;refine uH J g2 J B7' _ underlying263 J Oi J (.int .i64 15) J ?_;exact tx
   case neg=>
    have hk':((k:Int)==16)=false:=az;have HF3:Hid (wX q l (16-(k+1)) (k+1) r.tg (yN t r.ak)=afW):=Y (by
     rw[<-HF.out,show 16-k=(16-(k+1))+1 by omega])
    clear HF;generalize r.ak=tl at*;go_wp2_with fail;refine(LE.out _ _ _ _ _ E3 E4 n34).mono ?_;rintro _ w5 ⟨rfl,w4,u4,g4,g5,C4,F3,F4⟩;have G1:=(E1.grown g4 (by simp;exact n13)).grown g5 (by simp;exact n14);have G2:=(E2.grown g4 (by simp;exact n23)).grown g5 (by simp;exact n24);have HB5:=tN (tN H1 g4 H1.size h3) g5 (Nat.le_trans H1.size g4.size) h4;have aGY:w5.cell? ⟨gs,j*33+22,none⟩=some (.slice At r.tg.length ct):=by rw[<-c22,HB5.cell (p:=⟨gs,_,none⟩) hgs,H1.cell (p:=⟨gs,_,none⟩) hgs]
    clear g4 g5 C4 E1 E2 E3 E4 H1 c3 c22;go_wp2_with fail;go_roundw
    case rel=>exact⟨k+1,r.tg,At,ct,yN t tl,J,fU,I,hNt,htl,HF3,F3,F4,G1,G2,HB5⟩
    case measure=>simp[intOf];omega
def xc(h:Hd)(conn aaI:Bool):Int:=
 if h.tc=true/\conn=false then 2 else if h.rc=0\/h.rc=3 then 1 else if h.rc=2 then 4 else if aaI=true/\(h.rc=1\/h.rc=4)then 3 else 5
def yO(q:Qn)(m:vo):Int:=match wX q m.an 16 0 q.name none with
 | .ok _=>1
 | .error e=>if e=15 then 5 else if m.hd.rc=3 then 3 else 2
theorem abH(h:Hd)(conn aaI:Bool)(w:World):Calls prog 196 #[.agg h.vJ.toArray,.bool conn,.bool aaI] w (uf (.int .i64 (xc h conn aaI)) w):=by
 have HX:Below w.heap.size w (w.alloc (.cells h.vJ.toArray 46)):=gj;have BX:=Z.new w 46 h.vJ;have c4:=BX.K 4 (u:=.bool h.tc) J;have c9:=BX.K 9 (u:=.int .i64 h.rc) J;have hb:xc h conn aaI=if h.tc=true/\conn=false then 2 else if h.rc=0\/h.rc=3 then 1 else if h.rc=2 then 4 else if aaI=true/\(h.rc=1\/h.rc=4)then 3 else 5:=rfl
 have HK:=Y hb;clear hb BX;generalize h.vJ=L,h.tc=tc,h.rc=rc at*;by_cases U:tc=true/\conn=false
 ·obtain⟨rfl,rfl⟩:=U;have aeq:Hid (xc h false aaI=2):=Y (by rw[HK.out];simp);clear HK;go_enter func196,ntmps196;exact pa
 rw[if_neg U]at HK;have HT:tc=false\/tc=true/\conn=true:=mr;obtain⟨V,hV⟩:=ao (xc h conn aaI);have HV:Hid ((if rc=0\/rc=3 then(1:Int)else if rc=2 then 4 else if aaI=true/\(rc=1\/rc=4)then 3 else 5)=V):=Y eM;rw[hV.out];clear HK hV U;have tM:∀k:Int,rc≠k->(rc==k)=false:=lR;by_cases r0:rc=0
 case pos=>subst r0;have aeq:Hid (V=1):=Y eO;clear HV tM;exact oO
 by_cases r3:rc=3
 case pos=>subst r3;have aeq:Hid (V=1):=Y eO;clear HV tM r0;exact oO
 by_cases r2:rc=2
 case pos=>subst r2;have aeq:Hid (V=4):=Y eO;clear HV tM r0 r3;exact oO
 by_cases r1:rc=1
 case pos=>
  subst r1;cases aaI with
  |true=>have aeq:Hid (V=3):=Y eO;clear HV tM r0 r3 r2;exact oO
  |false=>have aeq:Hid (V=5):=Y eO;clear HV tM r0 r3 r2;exact oO
 by_cases r4:rc=4
 case pos=>
  subst r4;cases aaI with
  |true=>have aeq:Hid (V=3):=Y eO;clear HV tM r0 r3 r2 r1;exact oO
  |false=>have aeq:Hid (V=5):=Y eO;clear HV tM r0 r3 r2 r1;exact oO
 have aeq:Hid (V=5):=j9;have q0:=tM 0 r0;have q1:=tM 1 r1;have q2:=tM 2 r2;have q3:=tM 3 r3;have q4:=tM 4 r4;clear HV tM r0 r1 r2 r3 r4;exact oO
structure Xc where
 hS:Int
 vc:Bool
 ed:Bool
 q:Qn
 tr:List uV
 k:Nat
 lg:Nat
 left:Int
 uz:Nat
 y:Qy
 d:Dl
 hard:Bool
 done:Bool
 vd:Int
 xP:vo
abbrev XR:=Xc×Lt×List Ou
def Xc.yc(x:Xc):Bool:=decide (x.lg=0)&&x.ed
def xZ(x:Xc)(L:Lt):Qy:=⟨x.tr.getD x.k uV.zero,1024+(wZ L 64512).1,(wZ (wZ L 64512).2 65536).1,x.q⟩
def GL(L:Lt):Lt:=(wZ (wZ L 64512).2 65536).2
def xM(x:Xc)(L:Lt)(lg:Nat):XR:=
 if lg=2 then({x with y:=xZ x L,lg:=2,left:=x.hS,uz:=x.uz+1,d:=(yW (xZ x L)).1},GL L,(yW (xZ x L)).2)
 else({x with y:=xZ x L,lg:=lg,left:=x.hS,uz:=x.uz+1},GL L,[⟨1,(xZ x L).sv,(xZ x L).port,(vg (vw x.q (xZ x L).id (decide (lg=0)&&x.ed)) false).1⟩])
def Cp(x:Xc)(L:Lt):XR:=if x.k<x.tr.length then xM x L (if x.vc then 2 else 0)else({x with done:=true,vd:=if x.hard then 5 else 4,xP:=vo.zero},L,[])
def vZ(x:Xc)(L:Lt):XR:=Cp {x with k:=x.k+1} L
def yC(x:Xc)(L:Lt)(m:vo):XR:=
 if xc m.hd (decide (x.lg=2)) x.yc=1 then({x with done:=true,vd:=yO x.q m,xP:=m},L,[])
 else if xc m.hd (decide (x.lg=2)) x.yc=2 then xM x L 2
 else if xc m.hd (decide (x.lg=2)) x.yc=3 then xM x L 1
 else if xc m.hd (decide (x.lg=2)) x.yc=5 then vZ {x with hard:=true} L
 else vZ x L
def Eh(o:List Ou)(r:XR):XR:=(r.1,r.2.1,o++r.2.2)
def wU(x:Xc)(L:Lt)(e:Ev):XR:=
 if x.done then(x,L,[])
 else if x.lg=2 then
  if e.kind=1 then(if x.left<=1 then Eh (xB x.d).2 (vZ {x with left:=x.left-1,d:=(xB x.d).1} L)else({x with left:=x.left-1},L,[]))
  else if(uW x.d e).1.st=1 then Eh (uW x.d e).2 (yC {x with d:=(uW x.d e).1} L (uW x.d e).1.xP)
  else if(uW x.d e).1.st=2 then Eh (uW x.d e).2 (vZ {x with d:=(uW x.d e).1} L)
  else({x with d:=(uW x.d e).1},L,(uW x.d e).2)
 else if e.kind=1 then(if x.left<=1 then vZ {x with left:=x.left-1} L else({x with left:=x.left-1},L,[]))
 else if(A8 x.y e).2 then yC x L (A8 x.y e).1 else(x,L,[])
def Cq(hS:Int)(vc ed:Bool)(q:Qn)(tr:List uV):Xc:=⟨hS,vc,ed,q,tr,0,0,0,0,⟨uV.zero,0,0,⟨[],0,0⟩⟩,⟨⟨uV.zero,0,0,⟨[],0,0⟩⟩,[],2,false,[],vo.zero⟩,false,false,0,vo.zero⟩
def AU(hS:Int)(vc ed:Bool)(q:Qn)(tr:List uV)(L:Lt):XR:=
 if(vg (vw q 0 ed) false).2≠0 then({Cq hS vc ed q tr with done:=true,vd:=3},L,[])else Cp (Cq hS vc ed q tr) L
structure Xc.st (x:Xc):Prop where
 ips:∀a∈x.tr,a.ip.length=16
 to1:1<=x.hS
 to2:x.hS<=30
 trl:x.tr.length<=1000
 err:∀id e,0<=id->id<=65535->(vg (vw x.q id e) false).2=0
structure Xc.ok (x:Xc):Prop where
 st:x.done=false->x.st
 go:x.done=false->x.k<x.tr.length/\1<=x.left/\x.left<=x.hS/\x.y.q=x.q/\x.y.sv=x.tr.getD x.k uV.zero/\(x.lg=2->x.d.st=0/\x.d.y=x.y/\x.d.ok)
def Gg(D:Option Nat):Value:=.pointer (D.map fun g=>⟨g,0,none⟩)
def zC(T:List Value)(vn:Value)(q:Qn)(vt:Value)(gl:Nat)(k:Nat)(hs:Value)(qs:List Value)(eb:Bool)(dp:Option Nat)(left:Int)(uz:Nat)(hard done:Bool)(vd:Int)(ds:List Value):List Value:=
 T++(qC vn q++(vt:: .pointer (some ⟨gl,0,none⟩):: .int .i64 k::hs::(qs++(.bool eb::Gg dp:: .int .i64 left:: .int .i64 uz:: .bool hard:: .bool done:: .int .i64 vd::ds))))
section
variable {T qs ds:List Value} {vn vt hs:Value} {q:Qn} {gl k:Nat} {eb hard done:Bool} {dp:Option Nat} {left vd:Int} {uz:Nat}
theorem Im(hT:T.length=10)(hq:qs.length=23)(i:Nat)(hi:i<10):(zC T vn q vt gl k hs qs eb dp left uz hard done vd ds)[i]?=T[i]?:=by
 unfold zC;rw[List.getElem?_append_left I]
theorem adr(hT:T.length=10)(hq:qs.length=23):((zC T vn q vt gl k hs qs eb dp left uz hard done vd ds).drop 10).take 3=qC vn q:=by
 unfold zC;rw[show(10:Nat)=T.length by omega,List.drop_left];exact List.take_left' J
theorem EP(hT:T.length=10)(hq:qs.length=23)(i:Nat)(hi:i<4):(zC T vn q vt gl k hs qs eb dp left uz hard done vd ds)[13+i]?=[vt,.pointer (some ⟨gl,0,none⟩),.int .i64 k,hs][i]?:=by
 unfold zC;rw[List.getElem?_append_right I,hT,List.getElem?_append_right (by simp[qC];omega),show 13+i-10-(qC vn q).length=i by simp[qC];omega];match i,hi with
 |0,_=>rfl
 |1,_=>rfl
 |2,_=>rfl
 |3,_=>rfl
theorem Du(hT:T.length=10)(hq:qs.length=23):(zC T vn q vt gl k hs qs eb dp left uz hard done vd ds).drop 17=qs++(.bool eb::Gg dp:: .int .i64 left:: .int .i64 uz:: .bool hard:: .bool done:: .int .i64 vd::ds):=by
 unfold zC;rw[show(17:Nat)=T.length+7 by omega,List.drop_append];rw[List.drop_of_length_le I,List.nil_append];simp[qC]
theorem aey(hT:T.length=10)(hq:qs.length=23):((zC T vn q vt gl k hs qs eb dp left uz hard done vd ds).drop 17).take 23=qs:=by
 rw[Du hT hq];exact List.take_left' hq
theorem DZ(hT:T.length=10)(hq:qs.length=23)(i:Nat)(hi:i<7):(zC T vn q vt gl k hs qs eb dp left uz hard done vd ds)[40+i]?=[Value.bool eb,Gg dp,.int .i64 left,.int .i64 uz,.bool hard,.bool done,.int .i64 vd][i]?:=by
 have e:(zC T vn q vt gl k hs qs eb dp left uz hard done vd ds)[40+i]?=((zC T vn q vt gl k hs qs eb dp left uz hard done vd ds).drop 17)[23+i]?:=by rw[List.getElem?_drop];congr 1;omega
 rw[e,Du hT hq,List.getElem?_append_right I,hq,Nat.add_sub_cancel_left];match i,hi with
 |0,_=>rfl
 |1,_=>rfl
 |2,_=>rfl
 |3,_=>rfl
 |4,_=>rfl
 |5,_=>rfl
 |6,_=>rfl
theorem ads(hT:T.length=10)(hq:qs.length=23):((zC T vn q vt gl k hs qs eb dp left uz hard done vd ds).drop 46).take 15= .int .i64 vd::ds.take 14:=by
 have e:(zC T vn q vt gl k hs qs eb dp left uz hard done vd ds).drop 46= .int .i64 vd::ds:=by rw[show(46:Nat)=17+29 from J,<-List.drop_drop,Du hT hq,show(29:Nat)=qs.length+6 by omega,List.drop_append];simp
 rw[e];rfl
theorem AV(hT:T.length=10)(hq:qs.length=23):(zC T vn q vt gl k hs qs eb dp left uz hard done vd ds).length=47+ds.length:=by
 simp[zC,hT,hq,qC];omega
theorem abI(hT:T.length=10)(hq:qs.length=23)(k':Nat):(zC T vn q vt gl k hs qs eb dp left uz hard done vd ds).set 15 (.int .i64 k')=zC T vn q vt gl k' hs qs eb dp left uz hard done vd ds:=by
 exact qf
theorem L7(hT:T.length=10)(hq:qs.length=23)(h':Value):(zC T vn q vt gl k hs qs eb dp left uz hard done vd ds).set 16 h'=zC T vn q vt gl k h' qs eb dp left uz hard done vd ds:=by
 exact qf
theorem Z9(hT:T.length=10)(hq:qs.length=23)(b:Bool):(zC T vn q vt gl k hs qs eb dp left uz hard done vd ds).set 40 (.bool b)=zC T vn q vt gl k hs qs b dp left uz hard done vd ds:=by
 exact qf
theorem Md(hT:T.length=10)(hq:qs.length=23)(d:Option Nat):(zC T vn q vt gl k hs qs eb dp left uz hard done vd ds).set 41 (Gg d)=zC T vn q vt gl k hs qs eb d left uz hard done vd ds:=by
 exact qf
theorem Me(hT:T.length=10)(hq:qs.length=23)(n:Int):(zC T vn q vt gl k hs qs eb dp left uz hard done vd ds).set 42 (.int .i64 n)=zC T vn q vt gl k hs qs eb dp n uz hard done vd ds:=by
 exact qf
theorem Uz(hT:T.length=10)(hq:qs.length=23)(n:Nat):(zC T vn q vt gl k hs qs eb dp left uz hard done vd ds).set 43 (.int .i64 n)=zC T vn q vt gl k hs qs eb dp left n hard done vd ds:=by
 exact qf
theorem UA(hT:T.length=10)(hq:qs.length=23)(b:Bool):(zC T vn q vt gl k hs qs eb dp left uz hard done vd ds).set 44 (.bool b)=zC T vn q vt gl k hs qs eb dp left uz b done vd ds:=by
 exact qf
theorem UB(hT:T.length=10)(hq:qs.length=23)(b:Bool):(zC T vn q vt gl k hs qs eb dp left uz hard done vd ds).set 45 (.bool b)=zC T vn q vt gl k hs qs eb dp left uz hard b vd ds:=by
 exact qf
theorem Oj(hT:T.length=10)(hq:qs.length=23):(zC T vn q vt gl k hs qs eb dp left uz hard done vd ds).take 17=T++(qC vn q++[vt,.pointer (some ⟨gl,0,none⟩),.int .i64 k,hs]):=by
 unfold zC;rw[show(17:Nat)=T.length+7 by omega,List.take_append,List.take_of_length_le I];simp[qC]
theorem VJ(hT:T.length=10)(hq:qs.length=23)(qs':List Value)(hq':qs'.length=23):(zC T vn q vt gl k hs qs eb dp left uz hard done vd ds).take 17++qs'++(zC T vn q vt gl k hs qs eb dp left uz hard done vd ds).drop (17+qs'.length)=zC T vn q vt gl k hs qs' eb dp left uz hard done vd ds:=by
 rw[Oj hT hq,hq',<-List.drop_drop,Du hT hq,List.drop_left' hq];simp[zC]
theorem Xp(hT:T.length=10)(hq:qs.length=23)(vd':Int)(ds':List Value)(hd:ds.length=14)(hd':ds'.length=14):(zC T vn q vt gl k hs qs eb dp left uz hard done vd ds).take 46++(.int .i64 vd'::ds')++(zC T vn q vt gl k hs qs eb dp left uz hard done vd ds).drop (46+(.int .i64 vd'::ds':List Value).length)=zC T vn q vt gl k hs qs eb dp left uz hard done vd' ds':=by
 rw[List.drop_of_length_le (by rw[AV hT hq];simp;omega),List.append_nil];have e:(zC T vn q vt gl k hs qs eb dp left uz hard done vd ds).take 46=T++(qC vn q++[vt,.pointer (some ⟨gl,0,none⟩),.int .i64 k,hs])++(qs++[.bool eb,Gg dp,.int .i64 left,.int .i64 uz,.bool hard,.bool done]):=by rw[show(46:Nat)=17+29 from J,List.take_add,Oj hT hq,Du hT hq,show(29:Nat)=qs.length+6 by omega,List.take_append,List.take_of_length_le (show qs.length<=qs.length+6 by omega)];simp
 rw[e];simp[zC]
end
structure wM (w:World) (g gl:Nat) (vn:Value) (x:Xc) (hs:Value) (eb:Bool) (qs:List Value) (dp:Option Nat):Prop where
 b:∃T vt ds,Z w g 177 (zC T vn x.q vt gl x.k hs qs eb dp x.left x.uz x.hard x.done x.vd ds)/\T.length=10/\T[4]?=some (.int .i64 x.hS)/\T[7]?=some (.bool x.vc)/\T[9]?=some (.bool x.ed)/\LX w 0 vt x.tr/\uA w ds x.xP
 nm:Tc w vn x.q.name
 ql:qs.length=23
theorem Fr.ue(h:Fr S w w'):ug w w':=fun v n x=>h.own x cQ
theorem Fr.I5{α:Type}{B:Nat}{e:TypeId}{k:Nat}{R:List Value->α->Prop}{v:Value}{l:List α}(h:Fr S w w')(ho:uy w B e k R v l)(he:¬QZ e):uy w' B e k R v l:=ho.ue (fun _ x=>h.own x he) (fun _ _ x=>x)
theorem Fr.xP{cs:List Value}{m:vo}(h:Fr S w w')(hm:uA w cs m):uA w' cs m:=by
 obtain⟨vq,va,vu,ve,U,X,h3,h4,h5,l⟩:=hm;have hq:¬QZ 28:=cQ;have hr:¬QZ 119:=cQ;exact⟨vq,va,vu,ve,U,X.ue (fun _ x=>h.own x hq) (fun _ _ x=>x.ue h.ue),h3.ue (fun _ x=>h.own x hr) (fun _ _ x=>x.ue h.ue),h4.ue (fun _ x=>h.own x hr) (fun _ _ x=>x.ue h.ue),h5.ue (fun _ x=>h.own x hr) (fun _ _ x=>x.ue h.ue),l⟩
theorem wM.lt{x:Xc}{dp:Option Nat}(h:wM w g gl vn x hs eb qs dp):g<w.heap.size:=by obtain⟨T,vt,ds,F,_⟩:=h.b;exact F.lt
theorem wM.fr{x:Xc}{dp:Option Nat}(h:wM w g gl vn x hs eb qs dp)(k:Fr S w w')(hg:¬S g):wM w' g gl vn x hs eb qs dp:=by
 obtain⟨T,vt,ds,F,U,X,h3,h4,h5,h6⟩:=h.b;exact⟨⟨T,vt,ds,k.uG F hg,U,X,h3,h4,k.I5 h5 cQ,k.xP h6⟩,h.nm.ue k.ue,h.ql⟩
theorem wM.G{x:Xc}{dp:Option Nat}(h:wM w g gl vn x hs eb qs dp)(k:al w w'):wM w' g gl vn x hs eb qs dp:=h.fr (S:=fun _=>False) (Fr.G k) (fun h=>h)
theorem wM.put{x x':Xc}{hs':Value}{eb':Bool}{qs':List Value}{dp dp':Option Nat}(h:wM w g gl vn x hs eb qs dp)(hg:w.grownBy w' (some g))(e1:x'.q=x.q)(e2:x'.tr=x.tr)(e3:x'.hS=x.hS)(e4:x'.vc=x.vc)(e5:x'.ed=x.ed)(e6:x'.xP=x.xP)(hq:qs'.length=23)
  (F:∀T vt ds,T.length=10->ds.length=14->Z w g 177 (zC T vn x.q vt gl x.k hs qs eb dp x.left x.uz x.hard x.done x.vd ds)->Z w' g 177 (zC T vn x.q vt gl x'.k hs' qs' eb' dp' x'.left x'.uz x'.hard x'.done x'.vd ds)):wM w' g gl vn x' hs' eb' qs' dp':=by
 obtain⟨T,vt,ds,hb0,U,X,h3,h4,h5,h6⟩:=h.b;have fr:Fr (fun i=>i=g) w w':=Fr.grown hg hb0 (.inr (.inl J)) J;refine⟨⟨T,vt,ds,?_,U,?_,?_,?_,?_,?_⟩,?_,hq⟩
 ·rw[e1];exact F T vt ds U h6.len hb0
 ·rw[e3];exact X
 ·rw[e4];exact h3
 ·rw[e5];exact h4
 ·rw[e2];exact fr.I5 h5 cQ
 ·rw[e6];exact fr.xP h6
 ·rw[e1];exact h.nm.ue fr.ue
def yr:List Ou->Nat
 |[]=>0
 |o::l=>(if o.kind=1\/o.kind=2 then 1 else 0)+yr l
theorem GM:∀(a b:List Ou),yr (a++b)=yr a+yr b
 |[],b=>by simp[yr]
 |o::a,b=>by simp only[List.cons_append,yr,GM a b];omega
def Xc.rest(x:Xc):Nat:=if x.done then 0 else(2-x.lg)+3*(x.tr.length-x.k-1)
def Xc.Sp(x:Xc):Nat:=if x.done then 0 else x.left.toNat+x.hS.toNat*x.rest
theorem Fv{x:Xc}(h:x.done=false):x.rest=(2-x.lg)+3*(x.tr.length-x.k-1):=by unfold Xc.rest;rw[h];rfl
theorem UD{x:Xc}(h:x.done=false):x.Sp=x.left.toNat+x.hS.toNat*x.rest:=by unfold Xc.Sp;rw[h];rfl
theorem PI{x:Xc}(h:x.done=true):x.rest=0:=by unfold Xc.rest;rw[h];rfl
theorem PJ{x:Xc}(h:x.done=true):x.Sp=0:=by unfold Xc.Sp;rw[h];rfl
structure z8 (x:Xc) (L:Lt) (r:XR) (t n h:Nat):Prop where
 tr:r.1.tr=x.tr
 hS:r.1.hS=x.hS
 q:r.1.q=x.q
 snt:r.1.uz=x.uz+yr r.2.2
 rst:yr r.2.2+r.1.rest<=n
 Sp:r.1.Sp<=t
 lg:r.1.lg<=2
 vd:r.1.done=true->r.1.vd≠0
 us:r.2.1.us<=L.us+2
 ds:r.2.1.ds=L.ds
 hd:r.1.d.aA.length<=h
theorem z8.mono{x:Xc}{L:Lt}{r:XR}{t n t' n' h':Nat}(e:z8 x L r t n h)(ht:t<=t')(hn:n<=n')(hh:h<=h'):z8 x L r t' n' h':=
 ⟨e.tr,e.hS,e.q,e.snt,Nat.le_trans e.rst hn,Nat.le_trans e.Sp ht,e.lg,e.vd,e.us,e.ds,Nat.le_trans e.hd hh⟩
theorem z8.of{x y:Xc}{L:Lt}{r:XR}{t n:Nat}(e:z8 x L r t n h)(U:x.tr=y.tr)(X:x.hS=y.hS)(h3:x.q=y.q)(h4:x.uz=y.uz):z8 y L r t n h:=
 ⟨U▸e.tr,X▸e.hS,h3▸e.q,h4▸e.snt,e.rst,e.Sp,e.lg,e.vd,e.us,e.ds,e.hd⟩
theorem Sq{x:Xc}(h:x.st)(L:Lt):Gf (xZ x L)=0:=by
 obtain⟨U,X⟩:=Fp (wZ L 64512).2 (show(0:Int)<65536 by decide);exact h.err (wZ (wZ L 64512).2 65536).1 false U I
theorem aaa(x:Xc)(L:Lt)(lg:Nat):(xM x L lg).1.done=x.done/\(xM x L lg).1.tr=x.tr/\(xM x L lg).1.k=x.k/\(xM x L lg).1.hS=x.hS/\(xM x L lg).1.left=x.hS/\(xM x L lg).1.lg=lg/\(xM x L lg).1.uz=x.uz+1/\(xM x L lg).1.q=x.q/\(xM x L lg).2.1=GL L:=by
 unfold xM;split
 ·rename_i h;subst h;exact⟨J,J,J,J,J,J,J,J,J⟩
 ·exact⟨J,J,J,J,J,J,J,J,J⟩
theorem Mf{x:Xc}(h:x.st)(hd:x.done=false)(L:Lt)(lg:Nat)(hlg:lg<=2):z8 x L (xM x L lg) (x.hS.toNat*(1+(2-lg)+3*(x.tr.length-x.k-1))) (1+(2-lg)+3*(x.tr.length-x.k-1)) x.d.aA.length:=by
 have e0:=Sq h L;have eN:yW (xZ x L)=(⟨xZ x L,tT 2 (CR (xZ x L)).length++CR (xZ x L),0,false,[],vo.zero⟩,[⟨2,(xZ x L).sv,(xZ x L).port,[]⟩]):=by unfold yW;rw[if_pos e0]
 have hm:x.hS.toNat*(1+(2-lg)+3*(x.tr.length-x.k-1))=x.hS.toNat+x.hS.toNat*((2-lg)+3*(x.tr.length-x.k-1)):=by rw[Nat.add_assoc,Nat.mul_add,Nat.mul_one]
 have F:yr (xM x L lg).2.2=1:=by
  unfold xM;split
  ·rw[eN];rfl
  ·rfl
 have hh:(xM x L lg).1.d.aA.length<=x.d.aA.length:=by
  unfold xM;split
  ·rw[eN];exact Nat.zero_le _
  ·exact Nat.le_refl _
 obtain⟨f1,f2,f3,f4,f5,f6,f7,f8,f9⟩:=aaa x L lg;have hdn:=f1.trans hd;refine⟨f2,f4,f8,by rw[f7,F],?_,?_,by rw[f6];exact hlg,fun hh=>?_,by rw[f9];exact Nat.le_refl _,by rw[f9];rfl,hh⟩
 ·rw[F,Fv hdn,f2,f3,f6];omega
 ·rw[UD hdn,Fv hdn,f2,f3,f4,f5,f6,hm];exact Nat.le_refl _
 ·rw[hdn]at hh;cases hh
theorem Ss{x:Xc}(h:x.st)(hd:x.done=false)(hlg:x.lg<=2)(L:Lt):z8 x L (Cp x L) (x.hS.toNat*(3*(x.tr.length-x.k))) (3*(x.tr.length-x.k)) x.d.aA.length:=by
 unfold Cp;split
 ·
  rename_i O;refine(Mf h hd L _ (by split<;>omega)).mono (Nat.mul_le_mul_left _ ?_) ?_ (Nat.le_refl _)
  ·split<;>omega
  ·split<;>omega
 ·exact⟨J,J,J,J,by rw[PI J];exact Nat.zero_le _,by rw[PJ J];exact Nat.zero_le _,hlg,fun _=>by show(if x.hard then(5:Int)else 4)≠0;split<;>decide,Nat.le_add_right _ _,J,Nat.le_refl _⟩
theorem Dv{x:Xc}(h:x.st)(hd:x.done=false)(hlg:x.lg<=2)(L:Lt):z8 x L (vZ x L) (x.hS.toNat*(3*(x.tr.length-x.k-1))) (3*(x.tr.length-x.k-1)) x.d.aA.length:=by
 have:=Ss (x:={x with k:=x.k+1}) ⟨h.ips,h.to1,h.to2,h.trl,h.err⟩ hd hlg L;refine z8.of (y:=x) (this.mono ?_ ?_ (Nat.le_refl _)) J J J J
 ·exact Nat.mul_le_mul_left _ (by show 3*(x.tr.length-(x.k+1))<=_;omega)
 ·show 3*(x.tr.length-(x.k+1))<=_;omega
theorem Xq(q:Qn)(m:vo):yO q m≠0:=by
 unfold yO;split
 ·decide
 ·
  split
  ·decide
  ·split<;>decide
theorem adt{h:Hd}{c:Bool}(hv:xc h c e=2):c=false:=by
 unfold xc at hv;split at hv
 ·rename_i h;exact h.2
 ·
  (repeat' split at hv)<;>simp at hv
theorem adu{h:Hd}{c:Bool}(hv:xc h c e=3):e=true:=by
 unfold xc at hv;split at hv
 ·simp at hv
 ·
  split at hv
  ·simp at hv
  ·
   split at hv
   ·simp at hv
   ·
    split at hv
    ·rename_i h;exact h.1
    ·simp at hv
theorem Ok{x:Xc}(h:x.st)(hd:x.done=false)(hlg:x.lg<=2)(L:Lt)(m:vo):z8 x L (yC x L m) (x.hS.toNat*x.rest) x.rest x.d.aA.length:=by
 have hr:=Fv hd;unfold yC;split
 ·exact⟨J,J,J,J,by rw[PI J];exact Nat.zero_le _,by rw[PJ J];exact Nat.zero_le _,hlg,fun _=>Xq _ _,Nat.le_add_right _ _,J,Nat.le_refl _⟩
 ·
  split
  ·rename_i hv;have hc:=adt hv;have hl:x.lg≠2:=iK;refine(Mf h hd L 2 (Nat.le_refl _)).mono (Nat.mul_le_mul_left _ ?_) ?_ (Nat.le_refl _);all_goals omega
  ·
   split
   ·
    rename_i hv;have hc:=adu hv;have hl:x.lg=0:=by unfold Xc.yc at hc;simp at hc;exact hc.1
    refine(Mf h hd L 1 I).mono (Nat.mul_le_mul_left _ ?_) ?_ (Nat.le_refl _);all_goals omega
   ·
    split
    ·refine(z8.of (y:=x) (Dv (x:={x with hard:=true}) ⟨h.ips,h.to1,h.to2,h.trl,h.err⟩ hd hlg L) J J J J).mono (Nat.mul_le_mul_left _ ?_) ?_ (Nat.le_refl _);all_goals show 3*(x.tr.length-x.k-1)<=_;omega
    ·refine(Dv h hd hlg L).mono (Nat.mul_le_mul_left _ ?_) ?_ (Nat.le_refl _);all_goals omega
theorem GN(d:Dl)(e:Ev):yr (uW d e).2=0:=by
 unfold uW
 (repeat' split)<;>rfl
theorem UE(d:Dl):yr (xB d).2=0:=by
 unfold xB;split<;>rfl
theorem z8.CY{x:Xc}{L:Lt}{r:XR}{t n:Nat}(e:z8 x L r t n h){o:List Ou}(ho:yr o=0):z8 x L (Eh o r) t n h:=
 ⟨e.tr,e.hS,e.q,by show r.1.uz=x.uz+yr (o++r.2.2);rw[GM,ho,Nat.zero_add];exact e.snt,by show yr (o++r.2.2)+r.1.rest<=n;rw[GM,ho,Nat.zero_add];exact e.rst,e.Sp,e.lg,e.vd,e.us,e.ds,e.hd⟩
theorem z8.same{x y:Xc}{L:Lt}{o:List Ou}{t:Nat}(U:y.tr=x.tr)(X:y.hS=x.hS)(h3:y.q=x.q)(h4:y.uz=x.uz)(h5:y.rest=x.rest)(h6:y.Sp<=t)(h7:y.lg<=2)(h8:y.done=true->y.vd≠0)(h9:y.d.aA.length<=h)(ho:yr o=0):z8 x L (y,L,o) t x.rest h:=
 ⟨U,X,h3,by show y.uz=x.uz+yr o;omega,by show yr o+y.rest<=x.rest;omega,h6,h7,h8,Nat.le_add_right _ _,J,h9⟩
theorem Xr{x:Xc}(h:x.done=false->x.st)(hl:x.done=false->1<=x.left)(hlg:x.lg<=2)(hv:x.done=true->x.vd≠0)(L:Lt)(e:Ev):z8 x L (wU x L e) (x.Sp-(if e.kind=1 then 1 else 0)) x.rest (x.d.aA.length+e.data.length):=by
 cases hd:x.done with
 |true=>unfold wU;rw[if_pos hd];exact z8.same J J J J J (by rw[PJ hd];exact Nat.zero_le _) hlg hv (Nat.le_add_right _ _) J
 |false=>
 have h:=h hd;have hr:=Fv hd;have hp:=UD hd;have hl1:=hl hd;have hx:=Sf x.d e;have hN:=Dv (x:={x with left:=x.left-1}) ⟨h.ips,h.to1,h.to2,h.trl,h.err⟩ hd hlg L;have hM:x.hS.toNat*(3*(x.tr.length-x.k-1))<=x.hS.toNat*x.rest:=Nat.mul_le_mul_left _ I;unfold wU;rw[if_neg eP];split
 ·
  split
  ·
   rename_i O;split
   ·
    have hN:=Dv (x:={x with left:=x.left-1,d:=(xB x.d).1}) ⟨h.ips,h.to1,h.to2,h.trl,h.err⟩ hd hlg L;refine(z8.of (y:=x) (hN.CY (UE x.d)) J J J J).mono ?_ ?_ ?_
    ·exact rR
    ·exact sF
    ·show(xB x.d).1.aA.length<=_;unfold xB;split<;>exact Nat.le_add_right _ _
   ·exact pC
  ·
   rename_i O;split
   ·
    refine(z8.of (y:=x) ((Ok (x:={x with d:=(uW x.d e).1}) ⟨h.ips,h.to1,h.to2,h.trl,h.err⟩ hd hlg L _).CY (GN x.d e)) J J J J).mono ?_ ?_ hx
    ·show x.hS.toNat*x.rest<=_;omega
    ·exact Nat.le_refl _
   ·
    split
    ·
     refine(z8.of (y:=x) ((Dv (x:={x with d:=(uW x.d e).1}) ⟨h.ips,h.to1,h.to2,h.trl,h.err⟩ hd hlg L).CY (GN x.d e)) J J J J).mono ?_ ?_ hx
     ·exact rR
     ·exact sF
    ·exact z8.same J J J J J eQ hlg hv hx (GN x.d e)
 ·
  split
  ·
   rename_i O;split
   ·
    refine(z8.of (y:=x) hN J J J J).mono ?_ ?_ (Nat.le_add_right _ _)
    ·exact rR
    ·exact sF
   ·exact pC
  ·
   rename_i O;split
   ·refine(Ok h hd hlg L _).mono ?_ (Nat.le_refl _) (Nat.le_add_right _ _);omega
   ·exact z8.same J J J J J eQ hlg hv (Nat.le_add_right _ _) J
theorem aab(hS:Int)(vc ed:Bool)(q:Qn)(tr:List uV)(L:Lt)(h:(vg (vw q 0 ed) false).2=0->(Cq hS vc ed q tr).st):z8 (Cq hS vc ed q tr) L (AU hS vc ed q tr L) (hS.toNat*(3*tr.length)) (3*tr.length) 0:=by
 unfold AU;split
 ·exact⟨J,J,J,J,by rw[PI J];exact Nat.zero_le _,by rw[PJ J];exact Nat.zero_le _,Nat.zero_le _,fun _=>by show(3:Int)≠0;decide,Nat.le_add_right _ _,J,Nat.le_refl _⟩
 ·rename_i he;exact Ss (h (Decidable.not_not.1 he)) J (Nat.zero_le _) L
theorem St(x:Xc)(L:Lt)(lg:Nat):(xM x L lg).2.2.length<=1:=by
 unfold xM;split
 ·exact ZY _
 ·exact Nat.le_refl _
theorem AM(x:Xc)(L:Lt):(Cp x L).2.2.length<=1:=by
 unfold Cp;split
 ·exact St _ _ _
 ·exact Nat.zero_le _
theorem Fw(x:Xc)(L:Lt)(m:vo):(yC x L m).2.2.length<=1:=by
 unfold yC
 (repeat' split)<;>first|exact St _ _ _|exact AM _ _|exact Nat.zero_le _
theorem Xs(x:Xc)(L:Lt)(e:Ev):(wU x L e).2.2.length<=2:=by
 have U:=IU x.d e;have X:=IV x.d;unfold wU
 (repeat' split)<;>first
  |exact Nat.zero_le _
  |(show(_++(vZ _ L).2.2).length<=2;rw[List.length_append];have:∀y,(vZ y L).2.2.length<=1:=fun y=>AM _ _;exact Nat.add_le_add aV (this _))
  |(show(_++(yC _ L _).2.2).length<=2;rw[List.length_append];exact Nat.add_le_add U (Fw _ _ _))
  |exact Nat.le_succ_of_le U
  |exact Nat.le_succ_of_le (AM _ _)
  |exact Nat.le_succ_of_le (Fw _ _ _)
end Go.Proofs.YthnbcmlnpdabhaaGreat
