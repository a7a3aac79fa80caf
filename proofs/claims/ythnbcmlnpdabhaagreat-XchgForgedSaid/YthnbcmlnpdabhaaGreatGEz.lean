/-
  Layer 12 (packed):octets,New;tables as maps.
-/
import Derived.Test.YthnbcmlnpdabhaaGreatGBz
import Derived.Maps.OwnSet
import Derived.Deep.CutBlock
namespace Go.Proofs.YthnbcmlnpdabhaaGreat
open _root_.Go.Proofs.Tryz
set_option maxHeartbeats 8000000
open Go.RowKit
set_option maxRecDepth 100000
set_option linter.unusedVariables false
variable {w w' w1 wr:World} {v:Value} {b g x lo c off:Nat} {n l:List (List UInt8)} {out s:List UInt8}
theorem Ji{B:Nat}{q:List UInt8}(h:w.ownsRow B 5 1 v q.length (vl q)):(convert 145 9 v).run prog w= .ok (.string (bs q)) w:=by
 rcases h.2 with⟨rfl,h0⟩|⟨g,cap,cur,rfl,_⟩
 ·
  have:q=[]:=List.length_eq_zero_iff.1 h0;subst this;have:(convert 145 9 (.slice none 0 0)).run prog w= .ok (.string ⟨#[]⟩) w:=by kernel_rfl
  exact this
 ·refine run_convert_bytes_back w 145 9 5 ⟨g,0,none⟩ cap q underlying145 underlying5 underlying9 ?_;intro j hj;exact h.cells (g:=g) J j _ (C9 q j hj)
def Ms(n:List (List UInt8))(k:Nat):List Nat:=(List.range k).map fun j=>uQ (n.take j)
theorem V8(n:List (List UInt8))(k:Nat):Ms n (k+1)=Ms n k++[uQ (n.take k)]:=by simp[Ms,List.range_succ]
def ints(l:List Nat):List Value:=l.map fun(x:Nat)=>Value.int .i64 (x:Int)
theorem Yo(a b:List Nat):ints (a++b)=ints a++ints b:=by simp[ints]
theorem U7:(prog.info? 3).map (fun i=>(i.zero,i.size,i.bytes))=some (some (.int .i64 0),1,8):=by kernel_rfl
theorem Is(n:List (List UInt8))(k:Nat)(h:k<n.length):ww (n.take (k+1))=ww (n.take k)++[UInt8.ofNat n[k].length]++n[k]:=by
 rw[List.take_succ_eq_append_getElem h,Km];simp[ww,zz]
def aaU(n:List (List UInt8))(w:World)(e:Ending)(w':World):Prop:=
 ∃v,e= .returned (.tuple #[.string (bs (ww n)),v])/\w'.ownsRow w.heap.size 3 1 v n.length (ints (Ms n n.length))/\al w w'
theorem KE(A:Option Addr)(c:Nat)(n:List (List UInt8))(w:World)(hA:zS w A n)(hg:yv n)(hs:uQ n<=254):
  Calls prog 248 #[.slice A n.length c] w (aaU n w):=by
 have hnl:n.length<=254:=Nat.le_trans (zE n) hs;obtain⟨i0,hi0,hz0,hz1,hz2⟩:=info_parts U7;go_enter func248,ntmps248;go_wp2_with(at_make;go_must(refine wpList_make_own _ J (.const (.int .i64 0)) (.tmp 9) 70 J w.heap.size 3 i0 (.int .i64 0) 1 underlying70 hi0 hz0 hz1 .i64 .i64 _ n.length J J J (by rw[hz2];omega) aJ (Nat.le_refl _) ?_));intro w1 af4 ak6;have hB1:al w w1:=(Below.refl _ w).grown ak6 (Nat.le_refl _) (by intro k O;cases O);clear ak6;go_wp2_with fail;go_loopw[4,5,13] (fun b bg i wr=>∃k:Nat,k<=n.length/\i= .int .i64 k/\wr.ownsRow w.heap.size 5 1 b (ww (n.take k)).length (vl (ww (n.take k)))/\wr.ownsRow w.heap.size 3 1 bg k (ints (Ms n k))/\al w wr) (fun _ _ i _=>n.length-(intOf i).toNat)
 case atStart=>exact⟨0,Nat.zero_le _,J,World.ownsRow_nil _ _ _ _,af4,hB1⟩
 case round=>
  clear af4 hB1;clear w1;obtain⟨k,O,rfl,F,hbg,hB⟩:=hrel;obtain⟨Ab,cb,hv⟩:=yg F;obtain⟨Ag,cg,hv2⟩:=yg hbg;rw[vK]at F hv;have hle:=wD n k;by_cases Hh:k<n.length
  ·
   have tQ:(k:Int)<n.length:=I;obtain⟨ba,oa,rfl,hba,xa⟩:=hA I;have c1:=(hB.cell hba).trans (xa k Hh);have ET:=Y (Is n k Hh);have ahR:=wD n (k+1);rw[C8 n k Hh]at ahR;have ar2:=(hg n[k] (List.getElem_mem Hh)).2;clear xa;rw[hv,hv2];rw[hv]at F;rw[hv2]at hbg;clear hv hv2;go_wp2_with(at_builtin;go_must(refine AE _ J (.tmp 17) (.tmp 20) 70 J 3 (.int .i64 0) 1 8 underlying70 U7 J ax w.heap.size _ k _ J (World.ownsRow.alloc hbg _) aS ⟨wr.heap.size,0,none⟩ 1 1 [.int .i64 (uQ (n.take k))] J J (Bf _ _ _ _ J) (zm J) ax aJ I ?_));intro g2 ajx w2 asq agM af8;have hb2:=Hb (F.alloc _) (hbg.alloc _) ax agM;have hB2:=xC (hB.alloc hB.size _) aS (hbg.alloc _) agM;have anB:w2.ownsRow w.heap.size 3 1 (.slice (some ⟨g2,0,none⟩) (k+1) ajx) (k+1) (ints (Ms n (k+1))):=by rw[V8,Yo];exact asq
   clear F hbg asq agM hB c1;go_wp2_with(at_builtin;go_must(refine AE _ J (.tmp 22) (.tmp 26) 145 J 5 (.int .u8 0) 1 1 underlying145 Da J ax w.heap.size _ (uQ (n.take k)) _ J (World.ownsRow.alloc hb2 _) aT ⟨w2.heap.size,0,none⟩ 1 1 [.int .u8 (n[k].length:Int)] J J (Bf _ _ _ _ J) (zm J) ax aJ I ?_));intro g3 ax2 w3 hb3 aoN awP;have asp:=Hb (anB.alloc _) (hb2.alloc _) ax aoN;have hB3:=xC (hB2.alloc hB2.size _) aT (hb2.alloc _) aoN;obtain⟨q,hq⟩:∃q,q=ww (n.take k)++[UInt8.ofNat n[k].length]:=gp;have hql:q.length=uQ (n.take k)+1:=by rw[hq,List.length_append,vK];rfl
   have amz:w3.ownsRow w.heap.size 5 1 (.slice (some ⟨g3,0,none⟩) (uQ (n.take k)+1) ax2) q.length (vl q):=by
    rw[hql,hq,AB];have:vl [UInt8.ofNat n[k].length]=[.int .u8 (n[k].length:Int)]:=by simp[vl];omega
    rw[this];exact hb3
   have HQ:=Y hq;have aEZ:q.length+n[k].length<=1000:=I;clear hb2 anB hB2 aoN hb3 hq hql;go_wp2_with(at_builtin;go_must(refine Qh _ J (.tmp 28) (.tmp 29) J w.heap.size _ q n[k] J amz hB3.size J I ?_));intro A4 c4 w4 hb4 aoM;have axp:=Hb asp amz ax aoM;have hB4:=xC hB3 hB3.size amz aoM;have hE:q++n[k]=ww (n.take (k+1)):=by rw[ET.out,HQ.out]
   rw[hE]at hb4;have HE:=Y (show(ww (n.take (k+1))).length=q.length+n[k].length by rw[<-hE,List.length_append]);clear hE amz asp hB3 aoM;go_wp2_with fail;go_roundw
   case rel=>exact⟨k+1,I,fU,by rw[HE.out];exact hb4,axp,hB4⟩
   case measure=>simp[intOf];omega
  ·have tQ:¬(k:Int)<n.length:=I;obtain rfl:k=n.length:=I;have ht:n.take n.length=n:=jY;rw[ht]at F hv;rw[hv,hv2];rw[hv]at F;rw[hv2]at hbg;rw[<-vK]at F;have hcv:=Ji F;rw[vK]at hcv;clear hv hv2 ht F;go_wp2_with fail;go_ret2;exact⟨_,J,hbg,hB⟩
open Go.RowKit Go.Maps
theorem Qq:Keyed prog 9:=string_keyed underlying9
theorem aaV(w:World):(zeroValue 3).run prog w= .ok (.int .i64 0) w:=by kernel_rfl
def zH(w:World)(b n:Nat)(f:List UInt8->Option Nat):Prop:=
 ∃D:DataW Unit,w.ownsMap prog 9 (plainElem prog 3) b n D/\∀k,match f k with
  |none=>Maps.has D (.string k)=false
  |some x=>Maps.has D (.string k)=true/\∀acZ,D.atKey (.string k) acZ= .lit (.int .i64 (x:Int))
theorem Yp(k:List UInt8)(O:k.length<=maxLen):keyOf prog 9 (.string (bs k))=some (Lit.string k):=by
 have:=WideMaps.keyOf_string_mk underlying9 (s:=bs k) (by rw[xf];exact O);rwa[aaJ]at this
theorem zH.made(w:World):zH (w.alloc (.map #[] 0)) w.heap.size 0 (fun _=>none):=⟨.map [],World.ownsMap_made _ _ _ _,fun k=>rfl⟩
theorem zH.look{n:Nat}{f:List UInt8->Option Nat}(h:zH w b n f)(k:List UInt8)(O:k.length<=maxLen):
  (Instr.lookup 313 (.map (some b)) (.string (bs k)) true).run prog w= .ok (.tuple #[.int .i64 ((f k).getD 0:Nat),.bool (f k).isSome]) w:=by
 obtain⟨D,ho,hf⟩:=h;obtain⟨v,ps,akR,hv⟩:=ho.look_ok Qq underlying313 (aaV w) (plainElem_int underlying3 (a:=0) ax) (Yp k O);obtain⟨a,rfl,ha,_⟩:=plainElem_int_inv underlying3 hv;have hfk:=hf k;rw[akR];cases O:f k with
 |none=>rw[O]at hfk;simp only at hfk;rw[Maps.atKey_of_not_has hfk]at ha;have:a=0:=lV;subst this;rw[hfk];rfl
 |some x=>rw[O]at hfk;simp only at hfk;rw[hfk.2]at ha;have:a=(x:Int):=lV;subst this;rw[hfk.1];rfl
theorem zH.store{n:Nat}{f:List UInt8->Option Nat}(h:zH w b n f)(k:List UInt8)(O:k.length<=maxLen)(x:Nat)(hx:x<16384)(hn:n<maxLen):
  ∃w',(Instr.mapUpdate 313 (.map (some b)) (.string (bs k)) (.int .i64 (x:Int))).run prog w= .ok () w'/\zH w' b (n+1) (fun j=>if j=k then some x else f j)/\w.grownBy w' (some b):=by
 obtain⟨D,ho,hf⟩:=h;obtain⟨w',akR,ho',hg⟩:=ho.update Qq underlying313 hn (Yp k O) (plainElem_int underlying3 (a:=(x:Int)) (WalkArith.wf_i64 I));refine⟨w',akR,⟨_,ho',fun j=>?_⟩,hg⟩;by_cases hj:j=k
 ·subst hj;simp only[if_true];exact⟨Maps.has_put_same ho.isMap (show WideAt.IsKeyLit (Lit.string j)from trivial) _,fun acZ=>Maps.atKey_put_same ho.isMap (show WideAt.IsKeyLit (Lit.string j)from trivial) _ _⟩
 ·
  simp only[if_neg hj];have hne:Lit.string j≠Lit.string k:=fun e=>hj (by injection e)
  have:=hf j;cases hfj:f j with
  |none=>rw[hfj]at this;simp only at this⊢;rw[Maps.has_put_other hne];exact this
  |some y=>rw[hfj]at this;simp only at this⊢;exact⟨by rw[Maps.has_put_other hne];exact this.1,fun acZ=>by rw[Maps.atKey_put_other hne];exact this.2 acZ⟩
theorem zH.kept{n:Nat}{f:List UInt8->Option Nat}{row:Option Nat}(h:zH w b n f)(hg:w.grownBy w' row)(hne:some b≠row):zH w' b n f:=by
 obtain⟨D,ho,hf⟩:=h;exact⟨D,ho.kept hg hne,hf⟩
theorem zH.lt{n:Nat}{f:List UInt8->Option Nat}(h:zH w b n f):b<w.heap.size:=by
 obtain⟨D,ho,hf⟩:=h;exact ho.lt
theorem zH.acQ{n:Nat}{f:List UInt8->Option Nat}{t:TypeId}{cs:List Value}(h:zH w b n f)(F:Z w g t cs):b≠g:=by
 rintro rfl;obtain⟨D,⟨es,N,hm,_⟩,_⟩:=h;unfold Z at F;rw[F]at hm;cases hm
def AY(w:World)(g b:Nat)(T:List (List (List UInt8)×Nat)):Prop:=
 Z w g 315 [.map (some b)]/\(∃f,zH w b T.length f/\∀n,yv n->f (ww n)=look T n)/\∀r∈T,r.2<16384
def acR(w:World)(e:Ending)(w':World):Prop:=∃g b,e= .returned (.pointer (some ⟨g,0,none⟩))/\AY w' g b []/\al w w'/\w.heap.size<=g/\w.heap.size<=b
theorem Yq(w:World):Calls prog 167 #[] w (acR w):=by
 have hmm:= @run_makeMap prog;go_enter func167,ntmps167;go_wp2;go_ret;refine⟨_,w.heap.size,J,⟨Z.vP _ _ [.map (some w.heap.size)] _ ap,⟨fun _=>none,(zH.made w).kept (World.grownBy_alloc _ _ none) ap,fun n _=>rfl⟩,ap⟩,((Below.refl _ _).alloc (Nat.le_refl _) _).alloc ap _,ap,Nat.le_refl _⟩
def xq(ud:Int)(p:Nat)(n:List (List UInt8))(k:Nat):List (List (List UInt8)×Nat):=
 (List.range k).flatMap fun j=>if low ud (p+uQ (n.take j))then[(n.drop j,(ud+(p+uQ (n.take j):Nat)).toNat)]else[]
theorem zd(ud:Int)(p:Nat)(n:List (List UInt8))(k:Nat):xq ud p n (k+1)=xq ud p n k++(if low ud (p+uQ (n.take k))then[(n.drop k,(ud+(p+uQ (n.take k):Nat)).toNat)]else[]):=by
 simp[xq,List.range_succ,List.flatMap_append]
theorem Tk(ud:Int)(p:Nat)(n:List (List UInt8))(k:Nat)(h:ud<0\/16384<=ud):xq ud p n k=[]:=by
 have hl:∀q,low ud q=false:=by
  intro q;cases hq:low ud q with
  |false=>rfl
  |true=>have:=(Ah ud q).1 hq;omega
 induction k with
 |zero=>rfl
 |succ k ih=>rw[zd,ih,hl];rfl
theorem Hj(ud:Int)(p:Nat)(n:List (List UInt8))(k:Nat):(xq ud p n k).length<=k:=by
 induction k with
 |zero=>exact Nat.le_refl _
 |succ k ih=>
  rw[zd,List.length_append];split
  ·simp;omega
  ·simp;omega
theorem V9{ud:Int}{p:Nat}{k:Nat}{r:List (List UInt8)×Nat}(h:r∈xq ud p n k):∃j,j<k/\r.1=n.drop j/\r.2<16384:=by
 induction k with
 |zero=>cases h
 |succ k ih=>
  rw[zd]at h;rcases List.mem_append.1 h with h|h
  ·obtain⟨j,hj,U,X⟩:=ih h;exact⟨j,I,U,X⟩
  ·
   by_cases hc:low ud (p+uQ (n.take k))=true
   ·rw[if_pos hc,List.mem_singleton]at h;have hl:=(Ah _ _).1 hc;refine⟨k,I,by rw[h],?_⟩;rw[h];simp only;omega
   ·rw[if_neg hc]at h;cases h
theorem Ni(T:List (List (List UInt8)×Nat))(ud:Int)(pre:List UInt8)(n:List (List UInt8)):∀k,k<=n.length->(∀j,j<k->look T (n.drop j)=none)->
  EZ T ud pre n=((EZ T ud (pre++ww (n.take k)) (n.drop k)).1,xq ud pre.length n k++(EZ T ud (pre++ww (n.take k)) (n.drop k)).2):=by
 intro k;induction k with
 |zero=>intro _ _;simp[xq]
 |succ k ih=>
  intro O h;rw[ih I (fun j hj=>h j I)];have hd:n.drop k=n[k]::n.drop (k+1):=List.drop_eq_getElem_cons I;have hl:=h k I;rw[hd]at hl;rw[hd,Kp hl];have e1:pre++ww (n.take k)++zz n[k]=pre++ww (n.take (k+1)):=by rw[List.take_succ_eq_append_getElem I,Km,List.append_assoc];simp[ww]
  have e2:(pre++ww (n.take k)).length=pre.length+uQ (n.take k):=by rw[List.length_append,vK]
  rw[e1,e2,zd,hd,List.append_assoc]
theorem U8(T:List (List (List UInt8)×Nat))(ud:Int)(n:List (List UInt8))(k q:Nat)(O:k<n.length)(h:∀j,j<k->look T (n.drop j)=none)(hq:look T (n.drop k)=some q):
  EZ T ud [] n=(ww (n.take k)++tT 2 (49152+q),xq ud 0 n k):=by
 rw[Ni T ud [] n k I h];have hd:n.drop k=n[k]::n.drop (k+1):=List.drop_eq_getElem_cons O;rw[hd]at hq⊢;rw[GY hq];simp
theorem Qr(T:List (List (List UInt8)×Nat))(ud:Int)(n:List (List UInt8))(h:∀j,j<n.length->look T (n.drop j)=none):
  EZ T ud [] n=(ww n++[0],xq ud 0 n n.length):=by
 rw[Ni T ud [] n n.length (Nat.le_refl _) h];simp[EZ]
theorem Wb{T:List (List (List UInt8)×Nat)}(h:look T n=none)(m:List (List UInt8)):look (T++[(n,x)]) m=if m=n then some x else look T m:=by
 by_cases hm:m=n
 ·subst hm;rw[if_pos J];unfold look at h⊢;rw[List.find?_append];have:T.find? (fun r=>r.1==m)=none:=aq;rw[this];simp
 ·rw[if_neg hm,CG];intro r hr;rw[List.mem_singleton]at hr;subst hr;exact fun e=>hm e.symm
theorem Wc{T:List (List (List UInt8)×Nat)}{ud:Int}{k:Nat}(O:k<n.length)(h:look T (n.drop k)=none):look (T++xq ud 0 n k) (n.drop k)=none:=by
 rw[CG]
 ·exact h
 ·exact rN
theorem Nj(n:List (List UInt8))(k:Nat):(ww n).drop (uQ (n.take k))=ww (n.drop k):=by
 have e:ww n=ww (n.take k)++ww (n.drop k):=lO;rw[e,<-vK,List.drop_left]
theorem Tl(n:List (List UInt8))(k:Nat):(ww n).take (uQ (n.take k))=ww (n.take k):=by
 have e:ww n=ww (n.take k)++ww (n.drop k):=lO;rw[e,<-vK,List.take_left]
def It(T:List (List (List UInt8)×Nat))(ud:Int)(n:List (List UInt8)):List UInt8:=if tY n=0 then(EZ T ud [] n).1 else[]
def JH(T:List (List (List UInt8)×Nat))(ud:Int)(n:List (List UInt8)):List (List (List UInt8)×Nat):=if tY n=0 then T++(EZ T ud [] n).2 else T
theorem U9(p:Option Addr)(A:Option Addr)(c:Nat)(n:List (List UInt8))(ud:Int)(w:World)(hA:zS w A n)(hm:n.length<=281474976710656)(hc:tY n≠0):
  Calls prog 236 #[.pointer p,.slice A n.length c,.int .i64 ud] w (yi (.tuple #[.string (bs []),.int .i64 (tY n)]) w):=by
 have C:=zc A c n w hA hm;generalize tY n=e at*;have hc':(e !=0)=true:=iK;go_enter func236,ntmps236;exact rU
def OL(n:List (List UInt8)):List UInt8:=ww n++[0]
theorem aaW(A:Option Addr)(c:Nat)(n:List (List UInt8))(ud:Int)(w:World)(hA:zS w A n)(hm:n.length<=281474976710656)(hc:tY n=0):
  Calls prog 236 #[.pointer none,.slice A n.length c,.int .i64 ud] w (uf (.tuple #[.string (bs (OL n)),.int .i64 0]) w):=by
 have C:=zc A c n w hA hm;obtain⟨hg,hs⟩:=wK hc;have hs':uQ n<=254:=I;have aek:=KE A c n w hA hg hs';rw[hc]at C;have hl:(ww n).length<=254:=jl;clear hc hg;unfold OL;go_enter func236,ntmps236;go_wp2_with fail;refine C.mono ?_;rintro _ w1 ⟨rfl,rfl⟩;go_wp2_with fail;refine aek.mono ?_;rintro _ w1 ⟨v,rfl,ho,hB⟩;generalize ww n=q at*;go_wp2_with fail;go_ret2;exact uf.mk J hB
def Yr(g b:Nat)(s:List UInt8)(T:List (List (List UInt8)×Nat))(w:World)(e:Ending)(w':World):Prop:=
 e= .returned (.tuple #[.string (bs s),.int .i64 0])/\AY w' g b T/\w.grownBy w' (some b)
def Ys(g b:Nat)(T:List (List (List UInt8)×Nat))(n:List (List UInt8))(ud:Int)(w:World)(bg out:Value)(wx:World):Prop:=
 ∃(k c:Nat) (A:Option Addr),k<=n.length/\bg= .slice A k c/\out= .string (bs (EZ T ud [] n).1)/\(EZ T ud [] n).2=xq ud 0 n k/\(∀j,j<k->look T (n.drop j)=none)/\
  (∀i,i<k->∃B,A=some ⟨B,0,none⟩/\w.heap.size<=B/\B<wx.heap.size/\wx.cell? ⟨B,i,none⟩=some (.int .i64 (uQ (n.take i))))/\AY wx g b T/\al w wx
theorem AY.G{T:List (List (List UInt8)×Nat)}(h:AY w g b T)(F:al w w'):AY w' g b T:=by
 obtain⟨U,⟨f,X,h3⟩,h4⟩:=h;exact⟨U.G F U.lt,⟨f,X.kept (uj F none) ap,h3⟩,h4⟩
theorem Nk{T T':List (List (List UInt8)×Nat)}(ho:out=s)(hT:T=T')(h:AY w' g b T)(hg:w.grownBy w' (some b)):Yr g b s T' w (.returned (.tuple #[.string (bs out),.int .i64 0])) w':=by
 subst ho hT;exact⟨J,h,hg⟩
theorem Nl{k c1:Nat}{T:List (List (List UInt8)×Nat)}{ud:Int}{wx:World}{A1:Option Addr}(O:k<=n.length)(hp:EZ T ud [] n=(s,xq ud 0 n k))
  (HN:Hid (∀j,j<k->look T (n.drop j)=none)) (ho:w1.ownsRow w.heap.size 3 1 (.slice A1 n.length c1) n.length (ints (Ms n n.length))) (hT:AY w1 g b T) (hB:al w w1) (hx:al w1 wx):
  Ys g b T n ud w (.slice A1 k c1) (.string (bs s)) wx:=by
 refine⟨k,c1,A1,O,J,by rw[hp],by rw[hp],HN.out,?_,hT.G hx,tL hB hB.size hx⟩;intro i hi;rcases ho.2 with⟨_,h0⟩|⟨B,cap,cur,hv,hBb,hh,_⟩
 ·omega
 ·injection hv with U X h3;subst U h3;have Hh:B<w1.heap.size:=(ho.lt B J).2;refine⟨B,J,hBb,Nat.lt_of_lt_of_le Hh hx.size,(hx.cell Hh).trans ?_⟩;rw[ho.cellAt i I];simp[ints,Ms,show i<n.length by omega]
theorem aaX{T:List (List (List UInt8)×Nat)}{f:List UInt8->Option Nat}{key:List UInt8}(hTb:Z wr g 315 [.map (some b)])(hne:b≠g)
  (hM:zH w' b (T.length+1) (fun k=>if k=key then some x else f k)) (hf:∀m,yv m->f (ww m)=look T m) (agl:∀r∈T,r.2<16384) (ar4:key=ww n) (hn:yv n) (hl:look T n=none) (hx:x<16384) (hg:wr.drew.grownBy w' (some b)):
  AY w' g b (T++[(n,x)]):=by
 refine⟨(Z.drew hTb).grown hg (fun e=>hne (by injection e with e;exact e.symm)),⟨_,by simpa using hM,fun m hm=>?_⟩,?_⟩
 ·
  rw[Wb hl m];by_cases e:m=n
  ·subst e;rw[if_pos J,if_pos ar4.symm]
  ·rw[if_neg e,if_neg (fun h=>e (Ya m n hm hn (h.trans ar4)))];exact hf m hm
 ·
  intro r hr;rcases List.mem_append.1 hr with h|h
  ·exact agl r h
  ·rw[List.mem_singleton]at h;rw[h];exact hx
theorem aaY(g b:Nat)(T:List (List (List UInt8)×Nat))(A:Option Addr)(c:Nat)(n:List (List UInt8))(ud:Int)(w:World)(hT:AY w g b T)(hA:zS w A n)(hm:n.length<=281474976710656)(hc:tY n=0)(hTl:T.length<=1000000):
  Calls prog 236 #[.pointer (some ⟨g,0,none⟩),.slice A n.length c,.int .i64 ud] w (Yr g b (EZ T ud [] n).1 (T++(EZ T ud [] n).2) w):=by
 have C:=zc A c n w hA hm;obtain⟨hg,hs⟩:=wK hc;have hs':uQ n<=254:=I;have aek:=KE A c n w hA hg hs';rw[hc]at C;have hl:(ww n).length<=254:=jl;have hnl:n.length<=254:=lK;have GG:=Y (show yv n from hg);clear hc hg;go_enter func236,ntmps236;go_wp2_with fail;refine C.mono ?_;rintro _ w1 ⟨rfl,rfl⟩;go_wp2_with fail;refine aek.mono ?_;rintro _ w1 ⟨v,rfl,ho,hB⟩;have hT1:=hT.G hB;obtain⟨A1,c1,hv⟩:=yg ho;rw[hv]at ho⊢;clear hv C aek;obtain⟨q,hq⟩:∃q,q=ww n:=gp;rw[<-hq]at hl⊢;have HQ:=Y hq;clear hq;go_upto_block 0 with fail;go_cut[10,11] (fun bg out wx=>Ys g b T n ud w bg out wx)
 case first=>
  obtain⟨hTb,⟨f,hM,hf⟩,agl⟩:=hT1;have tc:=hTb.K 0 J;have HF:=Y hf;have ahG:=Y agl;clear hf agl;go_wp2_with fail;go_loopg [10,11,36] n.length (fun kk bg out i wr=>∃k:Nat,k<=n.length/\kk=n.length-k/\i= .int .i64 k/\bg= .slice A1 n.length c1/\out= .string (bs (q++[0]))/\Hid (∀j,j<k->look T (n.drop j)=none)/\∃d,wr=w1.drewN d)
  case atStart=>exact⟨0,Nat.zero_le _,J,J,J,J,Y (fun j hj=>by omega),0,J⟩
  case round=>
   obtain⟨k,O,hgk,rfl,rfl,rfl,HN,d,rfl⟩:=hrel;have HGK:=Y hgk;clear hgk;by_cases Hh:k<n.length
   ·
    have tQ:(k:Int)<n.length:=I;obtain⟨B,hA1⟩:∃B,A1=some ⟨B,0,none⟩:=by
     rcases ho.2 with⟨_,h0⟩|⟨B,cap,cur,hv,_⟩
     ·omega
     ·exact⟨B,by injection hv⟩
    subst hA1;have ago:=ho.cellAt k I;have hbk:(ints (Ms n n.length))[k]?=some (.int .i64 (uQ (n.take k):Int)):=by simp[ints,Ms,Hh]
    rw[hbk]at ago;have aoC:=wD n k;have hd1:q.drop (uQ (n.take k))=ww (n.drop k):=by rw[HQ.out,Nj]
    have HD1:=Y hd1;clear hd1 hbk;obtain⟨p,hp⟩:∃p,p=uQ (n.take k):=gp;rw[<-hp]at ago HD1 aoC;have HP:=Y hp;have hpq:(p:Int)<=q.length:=by have e:q.length=uQ n:=nY;omega
    clear hp;have ahv:∀d',(Instr.lookup 313 (.map (some b)) (.string (bs (q.drop p))) true).run prog (w1.drewN d')= .ok (.tuple #[.int .i64 ((f (q.drop p)).getD 0:Nat),.bool (f (q.drop p)).isSome]) (w1.drewN d'):=fun d'=>
     (show zH (w1.drewN d') b T.length f from hM).look (q.drop p) aU
    have hfk:f (q.drop p)=look T (n.drop k):=by rw[HD1.out];exact HF.out _ (GG.out.drop k)
    cases tK:look T (n.drop k)with
    |none=>
     rw[tK]at hfk;rw[hfk]at ahv;simp only[Option.getD_none,Option.isSome_none]at ahv;have HLO:=Y tK;clear tK hfk;go_wp2_with fail;go_quiet(fail);go_wp2_with fail;go_roundg (n.length-(k+1))
     case measure=>have:=HGK.out;omega
     case rel=>exact⟨k+1,I,J,fU,J,J,Y (fun j hj=>by
      by_cases e:j=k
      ·subst e;exact HLO.out
      ·
       exact HN.out j I),_,J⟩
    |some q0=>
     rw[tK]at hfk;rw[hfk]at ahv;simp only[Option.getD_some,Option.isSome_some]at ahv;have hq0:q0<16384:=ahG.out _ (Kq tK);have ahz:=U8 T ud n k q0 Hh HN.out tK;have HH:=Y ahz;have htk:q.take p=ww (n.take k):=by rw[HQ.out,HP.out,Tl]
     have HTK:=Y htk;clear tK hfk ahz htk;have agw:n.length<=c1:=by
      rcases ho.2 with⟨hv,_⟩|⟨_,_,_,hv,_,_,hh,_⟩
      ·cases hv
      ·injection hv with _ _ h3;omega
     go_wp2_with fail;go_quiet(fail);go_wp2_with fail;have hw1:IntKind.i64.wrap (49152+(q0:Int))=49152+(q0:Int):=jc;obtain⟨W,hW⟩:∃W,W=(w1.drewN d).drewN nq:=gp;rw[<-hW];have hBW:al w1 W:=hW▸below_drewN (below_drewN (Below.refl _ _) _) _;clear hW;have hpl:=tR 2 (49152+(q0:Int));have agp:∀W:World,(Op.stringOp .add (bs (q.take p)) (bs (tT 2 (49152+(q0:Int))))).run prog W= .ok (.string (bs (q.take p++tT 2 (49152+(q0:Int))))) W:=fun W=>by rw[run_string_add_sum W _ _ (by simp only[xf,List.length_take];omega),Ki]
     clear hpl;go_region_held3(fun w'=>al W w') (first|exact(Below.refl _ _).drew|exact Iq aV b3)
      ((go_at_call 117;refine(wi _ _ _).mono ?_;rw[show hw 2=2 from J];rintro e w3 ⟨rfl,b3⟩))
     clear agp;go_wp2_with fail;go_meet
     case rel=>exact Nl O (by rw[HTK.out];exact HH.out) HN ho ⟨hTb,⟨f,hM,HF.out⟩,ahG.out⟩ hB (tL hBW hBW.size aV)
   ·
    obtain rfl:k=n.length:=I;have ajF:=Y (Qr T ud n HN.out);have tQ:¬(n.length:Int)<n.length:=I;go_wp2_with fail;go_meet
    case rel=>exact Nl (Nat.le_refl _) (by rw[HQ.out];exact ajF.out) HN ho ⟨hTb,⟨f,hM,HF.out⟩,ahG.out⟩ hB (below_drewN (Below.refl _ _) _)
 case rest=>
  have hbw:b<w.heap.size:=hT.2.1.elim fun f h=>h.1.lt
  obtain⟨k,c2,A2,hk2,rfl,rfl,ank,ano,alb,hT2,hB2⟩:=hcut;have HR:=Y ank;have HN:=Y ano;have HCE:=Y alb;clear ank ano alb ho hT1 hB hT;obtain⟨out,ho⟩:∃out,out=(EZ T ud [] n).1:=gp;rw[<-ho];have HO:=Y ho;clear ho;by_cases hat:ud<0\/16384<=ud
  ·
   have hrn:=Tk ud 0 n k hat;have HRN:=Y hrn;clear hrn;have hB3:=uj hB2 (some b);rcases hat with h|h
   ·have d1:decide (ud<0)=true:=decide_eq_true h;exact tw
   ·have h0:0<=ud:=I;have d1:decide (ud<0)=false:=ik;exact tw
  ·
   have h0:0<=ud:=I;have U:ud<16384:=I;have d1:decide (ud<0)=false:=ik;have d2:decide (16384<=ud)=false:=ik;have tc:=hT2.1.K 0 J;have hem:∀W:World,(binOp .eql 313 (.map (some b)) (.map none)).run prog W= .ok (.bool false) W:=fun W=>by rw[run_eql_map_nil W 313 _ _ _ underlying313];rfl
   clear hat;go_wp2_with fail;go_loopg [82] k (fun kk i wr=>∃j:Nat,j<=k/\kk=k-j/\i= .int .i64 j/\AY wr g b (T++xq ud 0 n j)/\wc.grownBy wr (some b))
   case atStart=>exact⟨0,Nat.zero_le _,J,J,by simpa[xq]using hT2,World.grownBy.refl _ _⟩
   case round=>
    obtain⟨j,hj,hgk,rfl,hTj,hgr⟩:=hrel;have HGK:=Y hgk;clear hgk tc hT2;by_cases Hh:j<k
    ·
     have tQ:(j:Int)<k:=I;obtain⟨B,hA2,hBw,hBx,agY⟩:=HCE.out j Hh;subst hA2;have ago:=(yH hgr ⟨B,j,none⟩ hBx az).trans agY;have aoC:=wD n j;obtain⟨p,hp⟩:∃p,p=uQ (n.take j):=gp;rw[<-hp]at ago aoC;have HP:=Y hp;have hqe:q.length=uQ n:=nY;have hpq:(p:Int)<=q.length:=I;have hd1:q.drop p=ww (n.drop j):=by rw[HQ.out,HP.out,Nj]
     have HD1:=Y hd1;have HL:=Y (Wc (ud:=ud) (show j<n.length by omega) (HN.out j Hh));clear hp hqe hd1 agY;obtain⟨hTb,⟨f,hM,hf⟩,agl⟩:=hTj;have HF:=Y hf;have ahG:=Y agl;have tc:=hTb.K 0 J;clear hf agl;by_cases tK:ud+p<16384
     ·
      have hx:((ud.toNat+p:Nat):Int)=ud+p:=I;obtain⟨w',akR,hM',hg'⟩:=(show zH wr.drew b _ f from hM).store (q.drop p) aU (ud.toNat+p) I (by have:=Hj ud 0 n j;simp only[maxLen,List.length_append];omega);rw[hx]at akR;have hw1:IntKind.i64.wrap (ud+(p:Int))=ud+(p:Int):=jc;clear hx;have hRS:xq ud 0 n (j+1)=xq ud 0 n j++[(n.drop j,ud.toNat+p)]:=by have e:(ud+((0+p:Nat):Int)).toNat=ud.toNat+p:=I;rw[zd,<-HP.out,e,if_pos ((Ah _ _).2 ⟨h0,U,by simpa using tK⟩)]
      have hTN:AY w' g b (T++xq ud 0 n (j+1)):=by rw[hRS,<-List.append_assoc];exact aaX hTb (hM.acQ hTb) hM' HF.out ahG.out HD1.out (GG.out.drop j) HL.out I hg'
      have agM:wc.grownBy w' (some b):=tU (xV hgr) hg' (.inl J);clear hRS hM' hg';go_wp2_with fail;go_region;go_wp2_with fail;go_roundg (k-(j+1))
      case measure=>have:=HGK.out;omega
      case rel=>exact⟨j+1,I,J,fU,hTN,agM⟩
     ·
      have aiF:16384<=ud+p:=I;have hRS:xq ud 0 n (j+1)=xq ud 0 n j:=by rw[zd,<-HP.out,if_neg (by rw[Ah];simp;omega),List.append_nil]
      have hTN:AY wr g b (T++xq ud 0 n (j+1)):=by rw[hRS];exact⟨hTb,⟨f,hM,HF.out⟩,ahG.out⟩
      clear hRS;go_wp2_with fail;go_roundg (k-(j+1))
      case measure=>have:=HGK.out;omega
      case rel=>exact⟨j+1,I,J,fU,hTN,hgr⟩
    ·obtain rfl:j=k:=I;have tQ:¬(j:Int)<j:=I;go_wp2_with fail;go_ret2;exact Nk HO.out (by rw[HR.out]) hTj (tU (uj hB2 (some b)) hgr (.inl J))
def FT(lo:Nat)(w:World)(v:Value)(l:List (List UInt8)):Prop:=
 ∃A c,v= .slice A l.length c/\(0<l.length->∃b off,A=some ⟨b,off,none⟩/\b<lo/\∀i (hi:i<l.length),w.cell? ⟨b,off+i,none⟩=some (.string (bs l[i])))
theorem FT.G(h:FT lo w v l)(F:Below lo w w'):FT lo w' v l:=by
 obtain⟨A,c,hv,h⟩:=h;refine⟨A,c,hv,fun hp=>?_⟩;obtain⟨b,off,hA,Hh,hc⟩:=h hp;exact⟨b,off,hA,Hh,fun i hi=>(F.cell Hh).trans (hc i hi)⟩
theorem FT.toR{A:Option Addr}{k:Nat}(h:FT lo w (.slice A k c) l)(tK:lo<=w.heap.size):k=l.length/\zS w A l:=by
 obtain⟨A',c',hv,h⟩:=h;injection hv with U X h3;subst U X h3;refine⟨J,fun hp=>?_⟩;obtain⟨b,off,hA,Hh,hc⟩:=h hp;exact⟨b,off,hA,I,hc⟩
def yY:List Value->List (List (List UInt8)×Nat)->List Value
 |v::vs,r::T=>v:: .int .i64 (r.2:Int)::yY vs T
 |_,_=>[]
theorem Gi:∀(vs:List Value) (T:List (List (List UInt8)×Nat)) (v:Value) (r:List (List UInt8)×Nat),vs.length=T.length->yY (vs++[v]) (T++[r])=yY vs T++[v,.int .i64 (r.2:Int)]
 |[],[],v,r,_=>rfl
 |u::vs,x::T,v,r,h=>by
  simp only[List.cons_append,yY];rw[Gi vs T v r aq]
theorem Hk:∀(vs:List Value) (T:List (List (List UInt8)×Nat)) (i:Nat) (hv:i<vs.length) (ht:i<T.length),vs.length=T.length->(yY vs T)[i*2]?=some vs[i]/\(yY vs T)[i*2+1]?=some (.int .i64 (T[i].2:Int))
 |v::vs,r::T,0,_,_,_=>⟨J,J⟩
 |v::vs,r::T,i+1,hv,ht,h=>by
  have:=Hk vs T i (by simpa using hv) (by simpa using ht) aq;simp only[yY,List.getElem_cons_succ];rw[show(i+1)*2=i*2+1+1 by omega];exact this
def FY(lo:Nat)(w:World)(g:Nat)(T:List (List (List UInt8)×Nat)):Prop:=
 ∃(vs:List Value) (v:Value),vs.length=T.length/\Z w g 208 [v]/\w.ownsRow lo 273 2 v T.length (yY vs T)/\(∀i (hv:i<vs.length) (ht:i<T.length),FT lo w vs[i] T[i].1)/\(∀r∈T,r.1.length<=254/\r.2<16384)
theorem aaZ:(prog.info? 273).map (fun i=>(i.zero,i.size,i.bytes))=some (some (.agg #[.slice none 0 0,.int .i64 0]),2,32):=by kernel_rfl
def Jj(T:List (List (List UInt8)×Nat))(n:List (List UInt8)):Int:=match look T n with
 |some q=>q
 |none=> -1
theorem Wd{T:List (List (List UInt8)×Nat)}{k:Nat}(O:k<T.length)(h:look (T.take k) n=none):(T[k].1=n->look T n=some T[k].2)/\(T[k].1≠n->look (T.take (k+1)) n=none):=by
 have hT:T=T.take k++(T[k]::T.drop (k+1)):=by rw[<-List.drop_eq_getElem_cons O,List.take_append_drop]
 have h0:(T.take k).find? (fun r=>r.1==n)=none:=by simpa[look]using h
 constructor
 ·
  intro e;have key:∀(r:List (List UInt8)×Nat) (aqK:List (List (List UInt8)×Nat)),r.1=n->look (T.take k++(r::aqK)) n=some r.2:=by intro r aqK hr;unfold look;rw[List.find?_append,h0];simp[hr]
  have:=key T[k] (T.drop (k+1)) e;rwa[<-hT]at this
 ·intro e;unfold look;rw[List.take_succ_eq_append_getElem O,List.find?_append,h0];simp[e]
theorem Yt(lo g:Nat)(T:List (List (List UInt8)×Nat))(A:Option Addr)(c:Nat)(n:List (List UInt8))(w:World)(hT:FY lo w g T)(tK:lo<=w.heap.size)(hA:zS w A n)(hn:0<n.length)(hnl:n.length<=254)(hTl:T.length<=1000000):
  Calls prog 163 #[.pointer (some ⟨g,0,none⟩),.slice A n.length c] w (uf (.int .i64 (Jj T n)) w):=by
 obtain⟨vs,v,hvl,F,adV,htx,agl⟩:=hT;obtain⟨Av,cv,hv⟩:=yg adV;subst hv;have HTX:=Y htx;have ahG:=Y agl;have HVL:=Y hvl;clear htx agl hvl;have hn0:((n.length:Int)==0)=false:=by rw[beq_eq_false_iff_ne];omega
 go_enter func163,ntmps163;go_wp2_with fail;go_loopw[5] (fun i wr=>∃k:Nat,k<=T.length/\i= .int .i64 k/\Hid (look (T.take k) n=none)/\al w wr) (fun i _=>T.length-(intOf i).toNat)
 case atStart=>exact⟨0,Nat.zero_le _,J,Y J,Below.refl _ _⟩
 case round=>
  obtain⟨k,O,rfl,HN,hB⟩:=hrel;have tc:=(F.G hB F.lt).K 0 J;by_cases Hh:k<T.length
  ·
   have tQ:(k:Int)<T.length:=I;have hvk:k<vs.length:=by rw[HVL.out];exact Hh
   obtain⟨afr,hAv⟩:∃afr,Av=some ⟨afr,0,none⟩:=by
    rcases adV.2 with⟨_,h0⟩|⟨afr,cap,cur,hv,_⟩
    ·omega
    ·exact⟨afr,by injection hv⟩
   subst hAv;have hGl:=(adV.lt afr J).2;obtain⟨g1,g2⟩:=Hk vs T k hvk Hh HVL.out;have r1:=(hB.cell (p:=⟨afr,k*2,none⟩) hGl).trans ((adV.cellAt (k*2) I).trans g1);have r2:=(hB.cell (p:=⟨afr,k*2+1,none⟩) hGl).trans ((adV.cellAt (k*2+1) I).trans g2);have hL1:=HTX.out k hvk Hh;obtain⟨A1,c1,hv1,_⟩:=id hL1;rw[hv1]at r1 hL1;have hR1:=((hL1.G (hB.mono tK)).toR (Nat.le_trans tK hB.size)).2;have hRn:=hA.G hB;have hTk:=(ahG.out T[k] (List.getElem_mem Hh)).1;have hLT:=Wd Hh HN.out;have HLT:=Y hLT;clear g1 g2 hv1 hL1 hLT;obtain⟨r,hr⟩:∃r,r=T[k]:=gp;rw[<-hr]at r1 r2 hR1 hTk HLT;clear hr;by_cases he:r.1=n
   ·
    have ahv:=HLT.out.1 he;have hLI:Jj T n=r.2:=by unfold Jj;rw[ahv]
    have HLI:=Y hLI;have HE:=Y he;clear ahv hLI he;go_wp2_with fail;refine(zY A1 A r.1 n _ _ _ hR1 hRn I I).mono ?_;rw[decide_eq_true HE.out];rintro _ w2 ⟨rfl,hB2⟩;have aif:=tL hB hB.size hB2;have tc2:=(F.G aif F.lt).K 0 J;have r22:=(hB2.cell (p:=⟨afr,k*2+1,none⟩) (Nat.lt_of_lt_of_le hGl hB.size)).trans r2;clear tc r1 r2 hB2 hR1 hRn;go_wp2_with fail;go_ret;exact uf.mk (yf HLI.out.symm) aif
   ·
    have hno:=HLT.out.2 he;have HNO:=Y hno;have HE:=Y he;clear hno he;go_wp2_with fail;refine(zY A1 A r.1 n _ _ _ hR1 hRn I I).mono ?_;rw[decide_eq_false HE.out];rintro _ w2 ⟨rfl,hB2⟩;have aif:=tL hB hB.size hB2;clear tc r1 r2 hB2 hR1 hRn;go_wp2_with fail;go_roundw
    case rel=>exact⟨k+1,I,fU,HNO,aif⟩
    case measure=>simp[intOf];omega
  ·
   have tQ:¬(k:Int)<T.length:=I;have hLI:Jj T n= -1:=by have:=HN.out;rw[List.take_of_length_le I]at this;unfold Jj;rw[this]
   have HLI:=Y hLI;clear hLI;go_wp2_with fail;go_ret;exact uf.mk (yf HLI.out.symm) hB
theorem Yu(A:Option Addr)(c:Nat)(n:List (List UInt8))(w:World):
  Calls prog 163 #[.pointer none,.slice A n.length c] w (yi (.int .i64 (-1)) w):=by
 go_enter func163,ntmps163;exact oU
theorem zS.drop(h:∀i (hi:i<n.length),w.cell? ⟨b,off+i,none⟩=some (.string (bs n[i])))(F:b<w.heap.size)(k:Nat):zS w (some ⟨b,off+k,none⟩) (n.drop k):=by
 intro _;refine⟨b,off+k,J,F,fun i hi=>?_⟩;exact sY
theorem FT.drop(h:∀i (hi:i<n.length),w.cell? ⟨b,off+i,none⟩=some (.string (bs n[i])))(F:b<lo)(k:Nat):FT lo w (.slice (some ⟨b,off+k,none⟩) (n.drop k).length c) (n.drop k):=by
 refine⟨_,_,J,fun _=>⟨b,off+k,J,F,fun i hi=>?_⟩⟩;exact sY
theorem Tm{T:List (List (List UInt8)×Nat)}{ud:Int}{k:Nat}(O:k<n.length):look (T++xq ud 0 n k) (n.drop k)=look T (n.drop k):=by
 rw[CG];exact rN
def vp(lo:Nat)(w w':World):Prop:=Below lo w w'/\∀k t cs,Z w k t cs->t≠208->t≠273->Z w' k t cs
theorem vp.trans{w2:World}(h:vp lo w w1)(h':vp lo w1 w2):vp lo w w2:=⟨h.1.trans h'.1,fun k t cs F U X=>h'.2 k t cs (h.2 k t cs F U X) U X⟩
theorem vp.zq(h:al w w1)(tK:lo<=w.heap.size):vp lo w w1:=⟨h.mono tK,fun k t cs F _ _=>F.G h F.lt⟩
theorem vp.refl(lo:Nat)(w:World):vp lo w w:=⟨Below.refl _ _,fun _ _ _ h _ _=>h⟩
theorem Yv{gg cap:Nat}{T:List (List (List UInt8)×Nat)}{o:Obj}{vs:List Value}{sl:Value}(hvl:vs.length=T.length)(F:Z wr g 208 [v])
  (adV:wr.ownsRow lo 273 2 v T.length (yY vs T)) (htx:∀i (hv:i<vs.length) (ht:i<T.length),FT lo wr vs[i] T[i].1) (agl:∀r∈T,r.1.length<=254/\r.2<16384) (tK:lo<=wr.heap.size) (hg:lo<=g)
  (af4:w1.ownsRow lo 273 2 (.slice (some ⟨gg,0,none⟩) (T.length+1) cap) (T.length+1) (yY vs T++[sl,.int .i64 (x:Int)])) (af0:(wr.alloc o).drew.grownBy w1 v.ownBlock)
  (hsl:FT lo wr sl n) (hn:n.length<=254) (hx:x<16384):
  FY lo (w1.setCell ⟨g,0,none⟩ (.slice (some ⟨gg,0,none⟩) (T.length+1) cap)) g (T++[(n,x)])/\vp lo wr (w1.setCell ⟨g,0,none⟩ (.slice (some ⟨gg,0,none⟩) (T.length+1) cap)):=by
 have hb1:Z w1 g 208 [v]:=vD (F.alloc o).drew (adV.alloc o) ax af0;have hB:Below lo wr (w1.setCell ⟨g,0,none⟩ (.slice (some ⟨gg,0,none⟩) (T.length+1) cap)):=(((Below.refl lo wr).alloc tK o).drew.grown af0 az (yI adV)).setCell hg _;have hK:∀k t cs,Z wr k t cs->t≠208->t≠273->Z (w1.setCell ⟨g,0,none⟩ (.slice (some ⟨gg,0,none⟩) (T.length+1) cap)) k t cs:=by intro k t cs O U X;have hk1:Z w1 k t cs:=vD (O.alloc o).drew (adV.alloc o) X af0;refine hk1.yG (fun e=>?_) _;subst e;unfold Z at hk1 hb1;rw[hb1]at hk1;injection hk1 with hk1;injection hk1 with _ ht;exact U ht.symm
 refine⟨⟨vs++[sl],_,by simp[hvl],hb1.set 0 _,?_,?_,?_⟩,hB,hK⟩
 ·
  rw[Gi vs T sl _ hvl];have hne:gg≠g:=by
   rintro rfl;rcases af4.2 with⟨h,_⟩|⟨g',_,_,hv,_,hh,_⟩
   ·cases h
   ·injection hv with U;injection U with U;injection U with U;subst U;unfold Z at hb1;rw[hh]at hb1;injection hb1 with hb1;injection hb1 with _ ht;exact absurd ht ax
  have:=ownsRow_setCell_other af4 (a:=⟨g,0,none⟩) aM (.slice (some ⟨gg,0,none⟩) (T.length+1) cap);simpa using this
 ·
  intro i hv ht;by_cases hi:i<T.length
  ·have e1:(vs++[sl])[i]=vs[i]'I:=ny;have e2:(T++[(n,x)])[i]=T[i]:=ny;rw[e1,e2];exact(htx i I hi).G hB
  ·
   have hiT:i=T.length:=by simp at ht;omega
   subst hiT;have e1:(vs++[sl])[T.length]=sl:=by simp[<-hvl]
   have e2:(T++[(n,x)])[T.length]=(n,x):=ap;rw[e1,e2];exact hsl.G hB
 ·
  intro r hr;rcases List.mem_append.1 hr with h|h
  ·exact agl r h
  ·rw[List.mem_singleton]at h;rw[h];exact⟨hn,hx⟩
theorem FY.G{T:List (List (List UInt8)×Nat)}(h:FY lo w g T)(tK:lo<=w.heap.size)(F:al w w'):FY lo w' g T:=by
 obtain⟨vs,v,U,X,h3,h4,h5⟩:=h;exact⟨vs,v,U,X.G F X.lt,vQ h3 F,fun i hv ht=>(h4 i hv ht).G (F.mono tK),h5⟩
def Va(lo g:Nat)(s:List UInt8)(T:List (List (List UInt8)×Nat))(w:World)(e:Ending)(w':World):Prop:=
 e= .returned (.tuple #[.string (bs s),.int .i64 0])/\FY lo w' g T/\vp lo w w'
theorem KF{T T':List (List (List UInt8)×Nat)}(ho:out=s)(hT:T=T')(h:FY lo w' g T)(hg:vp lo w w'):Va lo g s T' w (.returned (.tuple #[.string (bs out),.int .i64 0])) w':=by
 subst ho hT;exact⟨J,h,hg⟩
theorem KG(p:Option Addr)(A:Option Addr)(c:Nat)(n:List (List UInt8))(ud:Int)(w:World)(hA:zS w A n)(hm:n.length<=281474976710656)(hc:tY n≠0):
  Calls prog 112 #[.pointer p,.slice A n.length c,.int .i64 ud] w (yi (.tuple #[.string (bs []),.int .i64 (tY n)]) w):=by
 have C:=uS A c n w hA hm;generalize tY n=e at*;have hc':(e !=0)=true:=iK;go_enter func112,ntmps112;exact rU
theorem both{p q:Prop}(h:p)(f:p->q):p/\q:=⟨h,f h⟩
theorem KH{a b:List UInt8}{e:Int}(h:a=b):Ending.returned (.tuple #[.string (bs a),.int .i64 e])= .returned (.tuple #[.string (bs b),.int .i64 e]):=by rw[h]
theorem Yw:tT 1 0=[0]:=by decide
theorem acp(k:Nat)(h:k<=255):tT 1 (k:Int)=[UInt8.ofNat k]:=by
 have e:((k:Int)%256).toNat=k:=I;simp[tT,e]
theorem Tn(lo g:Nat)(T:List (List (List UInt8)×Nat))(A:Option Addr)(c:Nat)(n:List (List UInt8))(ud:Int)(w:World)(hT:FY lo w g T)(tK:lo<=w.heap.size)(hgl:lo<=g)(hA:FT lo w (.slice A n.length c) n)(agw:n.length<=c)(hc:tY n=0)(hTl:T.length<=900000):
  Calls prog 112 #[.pointer (some ⟨g,0,none⟩),.slice A n.length c,.int .i64 ud] w (Va lo g (EZ T ud [] n).1 (T++(EZ T ud [] n).2) w):=by
 obtain⟨hg,hs⟩:=wK hc;have hs':uQ n<=254:=I;have hnl:n.length<=254:=lK;have C:=uS A c n w (hA.toR tK).2 I;rw[hc]at C;have GG:=Y (show yv n from hg);clear hc hg;go_enter func112,ntmps112;go_wp2_with fail;refine C.mono ?_;rintro _ w1 ⟨rfl,rfl⟩;go_wp2_with fail;go_loopw[9,10] (fun s i wr=>∃k:Nat,k<=n.length/\i= .int .i64 k/\s= .string (bs (ww (n.take k)))/\Hid (∀j,j<k->look T (n.drop j)=none)/\FY lo wr g (T++xq ud 0 n k)/\vp lo w wr) (fun _ i _=>n.length-(intOf i).toNat)
 case atStart=>exact⟨0,Nat.zero_le _,J,J,Y (fun j hj=>by omega),by simpa[xq]using hT,vp.refl _ _⟩
 case round=>
  clear C hT;obtain⟨k,O,rfl,rfl,HN,hT,hBK⟩:=hrel;have hB:=hBK.1;have agm:lo<=wr.heap.size:=vV hB tK;have hrl:=Hj ud 0 n k;by_cases Hh:k<n.length
  ·
   have tQ:(k:Int)<n.length:=I;obtain⟨A0,c0,hv0,hA0⟩:=id hA;injection hv0 with e1 _ e3;subst e1 e3;obtain⟨ba,oa,rfl,hba,xa⟩:=hA0 I;have xw:∀i (hi:i<n.length),wr.cell? ⟨ba,oa+i,none⟩=some (.string (bs n[i])):=fun i hi=>(hB.cell hba).trans (xa i hi)
   have XW:=Y xw;clear hA0 xa xw;have afW:=Yt lo g (T++xq ud 0 n k) (some ⟨ba,oa+k,none⟩) (c-k) (n.drop k) wr hT agm (zS.drop XW.out I k) az az az;rw[List.length_drop]at afW;have hLA:=Tm (T:=T) (ud:=ud) Hh;have hkc:(k:Int)<=c:=I;have awV:k<c:=I;cases afu:look T (n.drop k)with
   |some q0=>
    have hLI:Jj (T++xq ud 0 n k) (n.drop k)=q0:=nC;rw[hLI]at afW;have ahz:=Y (U8 T ud n k q0 Hh HN.out afu);have arN:q0<16384:=by obtain⟨_,_,_,_,_,_,agl⟩:=hT;exact(agl _ (List.mem_append_left _ (Kq afu))).2
    clear hLI hLA afu;have hq0:(0:Int)<=q0:=I;have af8:=wD n k;have hl:(ww (n.take k)).length<=254:=by rw[vK];omega
    obtain⟨q,hq⟩:∃q,q=ww (n.take k):=gp;rw[<-hq]at hl⊢;have HQ:=Y hq;clear hq;go_wp2_with fail;refine afW.mono ?_;rintro _ w2 ⟨rfl,hB2⟩;have hK2:vp lo w w2:=hBK.trans (vp.zq hB2 agm);have aif:Below lo w w2:=hK2.1;have hT2:=hT.G agm hB2;have afL:lo<=w2.heap.size:=vV aif tK;clear afW hT hB hB2 hBK;go_wp2_with fail;refine(wC _ _ _).mono ?_;rw[show hw 2=2 from J];have hpl:=tR 2 (49152+(q0:Int));rintro _ w3 ⟨rfl,hB3⟩;generalize hpp:tT 2 (49152+(q0:Int))=pp at*;have awF:pp.length<=2:=I;clear hpp hpl;go_wp2_with fail;go_ret2;exact KF (by rw[ahz.out,HQ.out]) (by rw[ahz.out]) (hT2.G afL hB3) (hK2.trans (vp.zq hB3 afL))
   |none=>
    have hLI:Jj (T++xq ud 0 n k) (n.drop k)= -1:=nC;rw[hLI]at afW;have HLO:=Y afu;clear hLI hLA afu;go_wp2_with fail;refine afW.mono ?_;rintro _ w2 ⟨rfl,hB2⟩;have hK2:vp lo w w2:=hBK.trans (vp.zq hB2 agm);have aif:Below lo w w2:=hK2.1;have afL:lo<=w2.heap.size:=vV aif tK;have hT2:=hT.G agm hB2;have xw:∀i (hi:i<n.length),w2.cell? ⟨ba,oa+i,none⟩=some (.string (bs n[i])):=fun i hi=>(hB2.cell (show ba<wr.heap.size by omega)).trans (XW.out i hi)
    replace XW:=Y xw;clear afW xw hT hB hB2 hBK;obtain⟨q,hq⟩:∃q,q=ww (n.take k):=gp;rw[<-hq];have hql:q.length=uQ (n.take k):=by rw[hq,vK]
    have arL:=wD n k;rw[<-hql]at arL;have HQL:=Y hql;have HQ:=Y hq;clear hq hql;go_upto_region 11 with fail;go_cut[51] (fun b wx=>b= .bool (low ud q.length)/\w2=wx)
    case first=>
     by_cases h0:0<=ud
     ·
      have d0:decide (0<=ud)=true:=decide_eq_true h0;by_cases U:ud<16384
      ·
       have d1:decide (ud<16384)=true:=kR;by_cases X:ud+q.length<16384
       ·have hl:low ud q.length=true:=(Ah _ _).2 ⟨h0,U,X⟩;have HLW:=Y hl;clear hl;exact pZ
       ·
        have hl:low ud q.length=false:=by
         cases hh:low ud q.length with
         |false=>rfl
         |true=>exact absurd ((Ah _ _).1 hh).2.2 X
        have HLW:=Y hl;clear hl;exact pZ
      ·
       have d1:decide (ud<16384)=false:=kD;have hl:low ud q.length=false:=by
        cases hh:low ud q.length with
        |false=>rfl
        |true=>exact absurd ((Ah _ _).1 hh).2.1 U
       have HLW:=Y hl;clear hl;by_cases X:wrap64 (ud+q.length)<16384
       ·have d2:decide (wrap64 (ud+q.length)<16384)=true:=decide_eq_true X;exact pZ
       ·have d2:decide (wrap64 (ud+q.length)<16384)=false:=decide_eq_false X;exact pZ
     ·
      have d0:decide (0<=ud)=false:=om;have hl:low ud q.length=false:=by
       cases hh:low ud q.length with
       |false=>rfl
       |true=>exact absurd ((Ah _ _).1 hh).1 h0
      have HLW:=Y hl;clear hl;exact pZ
    case rest=>
     obtain⟨rfl,rfl⟩:=hcut;have hRS:xq ud 0 n (k+1)=xq ud 0 n k++(if low ud q.length then[(n.drop k,(ud+(q.length:Nat)).toNat)]else[]):=by rw[zd,<-HQL.out,Nat.zero_add]
     have HRS:=Y hRS;clear hRS;go_upto_if 51 with fail;go_cut[] (fun wx=>FY lo wx g (T++xq ud 0 n (k+1))/\vp lo w wx)
     case first=>
      cases hl:low ud q.length with
      |false=>
       rw[hl,if_neg ap,List.append_nil]at HRS;clear hl;go_wp2_with fail;go_meet
       case rel=>exact⟨by rw[HRS.out];exact hT2,hK2⟩
      |true=>
       obtain⟨l0,l1,l2⟩:=(Ah _ _).1 hl;rw[hl,if_pos J]at HRS;clear hl;obtain⟨x,hx⟩:∃x:Nat,x=(ud+(q.length:Nat)).toNat:=gp;rw[<-hx]at HRS;have hxi:ud+(q.length:Int)=x:=I;have awr:x<16384:=I;have HXI:=Y hxi;clear hx hxi;obtain⟨vs,v,hvl,F,adV,htx,agl⟩:=hT2;obtain⟨Av,cv,hv⟩:=yg adV;rw[hv]at F adV;clear hv;have HTX:=Y htx;have ahG:=Y agl;have HVL:=Y hvl;clear htx agl hvl;have tc:=F.K 0 J;have hbl:=F.lt;have hw1:IntKind.i64.wrap (ud+(q.length:Int))=ud+(q.length:Int):=jc;obtain⟨i0,hi0,hz0,hz1,hz2⟩:=info_parts aaZ;have axy:(T++xq ud 0 n k).length<=900254:=az;have hck:¬c=k:=I;obtain⟨T1,hT1⟩:∃T1,T1=T++xq ud 0 n k:=gp;rw[<-hT1]at F adV tc axy HTX ahG HVL;have HT1:=Y hT1;clear hT1;go_wp2_with fail;go_region_law(refine step_append_lies _ J (.tmp 56) (.tmp 65) _ aN lo 273 i0 _ 2 32 underlying206 hi0 hz0 hz1 hz2 J ax _ T1.length _ aN (World.ownsRow.alloc adV _) ⟨w2.heap.size,0,none⟩ 1 1 [.slice (some ⟨ba,oa+k,none⟩) (n.length-k) (c-k),.int .i64 (ud+(q.length:Int))] aN aN (World.news_of_block (heap_alloc_new _ _)) aO I aJ I az (w2.heap.size+1) ap ?_;intro gg cap w3 af4 af0 hat awP;have U:=vD (Z.drew (Z.alloc F _)) (World.ownsRow.alloc adV _) ax af0;have k3:=U.K 0 J;have kf:=U.frozen 0;clear tc);all_goals
        rw[HXI.out]at af4;have hsl:=FT.drop (lo:=lo) (c:=c-k) XW.out hba k;rw[List.length_drop]at hsl;obtain⟨R1,R2⟩:=Yv HVL.out F adV HTX.out ahG.out afL hgl af4 af0 hsl az awr;have hT5:T++xq ud 0 n (k+1)=T1++[(n.drop k,x)]:=by rw[HRS.out,HT1.out,List.append_assoc]
        have HT5:=Y hT5;clear hT5;go_wp2_with fail;go_meet
        case rel=>exact⟨by rw[HT5.out];exact R1,hK2.trans R2⟩
     case rest=>
      clear hT2 aif afL HRS hK2;obtain⟨hT3,hK3⟩:=hcut;have hB3:=hK3.1;have ahw:lo<=wc.heap.size:=vV hB3 tK;have asr:ba<wc.heap.size:=I;have hL0:=hA;obtain⟨A0,c0,hv0,hA0⟩:=hL0;injection hv0 with e1 _ e3;subst e1 e3;obtain⟨b5,o5,e5,_,xa⟩:=hA0 I;injection e5 with e5;injection e5 with e5 e6;subst e5 e6;have ago:wc.cell? ⟨ba,oa+k,none⟩=some (.string (bs n[k])):=(hB3.cell hba).trans (xa k Hh);clear hA0 xa;have ET:=Y (Is n k Hh);have ahR:=wD n (k+1);rw[C8 n k Hh,<-HQL.out]at ahR;have ar2:=(GG.out n[k] (List.getElem_mem Hh)).2;have hp1:=acp n[k].length I;have ale:∀W:World,(Op.stringOp .add (bs q) (bs [UInt8.ofNat n[k].length])).run prog W= .ok (.string (bs (q++[UInt8.ofNat n[k].length]))) W:=lT;have ald:∀W:World,(Op.stringOp .add (bs (q++[UInt8.ofNat n[k].length])) (bs n[k])).run prog W= .ok (.string (bs (q++[UInt8.ofNat n[k].length]++n[k]))) W:=lS;have HP1:=Y hp1;clear hp1;have hcl:∀W,al wc W->W.cell? ⟨ba,oa+k,none⟩=some (.string (bs n[k])):=nQ;have HCL:=Y hcl;clear hcl;go_wp2_with fail;go_region_held3(fun w'=>al wc w'/\w'.cell? ⟨ba,oa+k,none⟩=some (.string (bs n[k]))) ((refine both ?_ (HCL.out _);first|exact(Below.refl _ _).drew|exact Iq (And.left ‹al wc _/\_›) b3))
       ((go_at_call 84;refine(wC _ _ _).mono ?_;rw[show hw 1=1 from J,HP1.out];rintro e w3 ⟨rfl,b3⟩))
      have bR:=And.left ‹al wc _/\_›;clear ale ald HCL;clear ‹al wc _/\_›;go_wp2_with fail;go_roundw
      case rel=>
       refine⟨k+1,I,fU,?_,Y (fun j hj=>by
        by_cases e:j=k
        ·subst e;exact HLO.out
        ·
         exact HN.out j I),hT3.G ahw bR,hK3.trans (vp.zq bR ahw)⟩
       rw[ET.out,HQ.out];simp
      case measure=>simp[intOf];omega
  ·obtain rfl:k=n.length:=I;have tQ:¬(n.length:Int)<n.length:=I;have ajF:=Y (Qr T ud n HN.out);rw[List.take_of_length_le (Nat.le_refl _)];have hl:(ww n).length<=254:=jl;obtain⟨q,hq⟩:∃q,q=ww n:=gp;rw[<-hq]at hl⊢;have HQ:=Y hq;clear hq;go_wp2_with fail;refine(wC _ _ _).mono ?_;rw[show hw 1=1 from J,Yw];rintro _ w3 ⟨rfl,hB3⟩;go_wp2_with fail;go_ret2;exact KF (by rw[ajF.out,HQ.out]) (by rw[ajF.out]) (hT.G agm hB3) (hBK.trans (vp.zq hB3 agm))
theorem Tp(A:Option Addr)(c:Nat)(n:List (List UInt8))(ud:Int)(w:World)(hA:zS w A n)(agw:n.length<=c)(hc:tY n=0):
  Calls prog 112 #[.pointer none,.slice A n.length c,.int .i64 ud] w (uf (.tuple #[.string (bs (OL n)),.int .i64 0]) w):=by
 obtain⟨hg,hs⟩:=wK hc;have hs':uQ n<=254:=I;have hnl:n.length<=254:=lK;have C:=uS A c n w hA I;rw[hc]at C;have GG:=Y (show yv n from hg);clear hc hg;go_enter func112,ntmps112;go_wp2_with fail;refine C.mono ?_;rintro _ w1 ⟨rfl,rfl⟩;go_wp2_with fail;go_loopw[9,10] (fun s i wr=>∃k:Nat,k<=n.length/\i= .int .i64 k/\s= .string (bs (ww (n.take k)))/\al w wr) (fun _ i _=>n.length-(intOf i).toNat)
 case atStart=>exact⟨0,Nat.zero_le _,J,J,Below.refl _ _⟩
 case round=>
  clear C;obtain⟨k,O,rfl,rfl,hB⟩:=hrel;by_cases Hh:k<n.length
  ·
   have tQ:(k:Int)<n.length:=I;obtain⟨ba,oa,rfl,hba,xa⟩:=hA I;have ago:=(hB.cell hba).trans (xa k Hh);have hkc:(k:Int)<=c:=I;have awV:k<c:=I;have afW:=Yu (some ⟨ba,oa+k,none⟩) (c-k) (n.drop k) wr;rw[List.length_drop]at afW;have ET:=Y (Is n k Hh);have ahR:=wD n (k+1);rw[C8 n k Hh]at ahR;have ar2:=(GG.out n[k] (List.getElem_mem Hh)).2;obtain⟨q,hq⟩:∃q,q=ww (n.take k):=gp;rw[<-hq];have hql:q.length=uQ (n.take k):=by rw[hq,vK]
   rw[<-hql]at ahR;have HQ:=Y hq;clear hq hql xa;go_wp2_with fail;refine afW.mono ?_;rintro _ w2 ⟨rfl,rfl⟩;clear afW;have hp1:=acp n[k].length I;have ale:∀W:World,(Op.stringOp .add (bs q) (bs [UInt8.ofNat n[k].length])).run prog W= .ok (.string (bs (q++[UInt8.ofNat n[k].length]))) W:=lT;have ald:∀W:World,(Op.stringOp .add (bs (q++[UInt8.ofNat n[k].length])) (bs n[k])).run prog W= .ok (.string (bs (q++[UInt8.ofNat n[k].length]++n[k]))) W:=lS;have HP1:=Y hp1;clear hp1;have asr:ba<wr.heap.size:=Nat.lt_of_lt_of_le hba hB.size;have hcl:∀W,al wr W->W.cell? ⟨ba,oa+k,none⟩=some (.string (bs n[k])):=nQ;have HCL:=Y hcl;clear hcl;go_wp2_with fail;go_region_held3(fun w'=>al wr w'/\w'.cell? ⟨ba,oa+k,none⟩=some (.string (bs n[k]))) ((refine both ?_ (HCL.out _);first|exact(Below.refl _ _).drew|exact Iq (And.left ‹al wr _/\_›) b3))
    ((go_at_call 84;refine(wC _ _ _).mono ?_;rw[show hw 1=1 from J,HP1.out];rintro e w3 ⟨rfl,b3⟩))
   have bR:=And.left ‹al wr _/\_›;clear ale ald HCL;clear ‹al wr _/\_›;go_wp2_with fail;go_roundw
   case rel=>refine⟨k+1,I,fU,?_,tL hB hB.size bR⟩;rw[ET.out,HQ.out];simp
   case measure=>simp[intOf];omega
  ·obtain rfl:k=n.length:=I;have tQ:¬(n.length:Int)<n.length:=I;rw[List.take_of_length_le (Nat.le_refl _)];have hl:(ww n).length<=254:=jl;obtain⟨q,hq⟩:∃q,q=ww n:=gp;rw[<-hq]at hl⊢;have HQ:=Y hq;clear hq;go_wp2_with fail;refine(wC _ _ _).mono ?_;rw[show hw 1=1 from J,Yw];rintro _ w3 ⟨rfl,hB3⟩;go_wp2_with fail;go_ret2;exact uf.mk (KH (by rw[HQ.out];rfl)) (tL hB hB.size hB3)
end Go.Proofs.YthnbcmlnpdabhaaGreat
