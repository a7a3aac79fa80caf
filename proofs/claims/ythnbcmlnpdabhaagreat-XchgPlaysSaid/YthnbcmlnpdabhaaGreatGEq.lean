/-
  Layer 12 (packed):octets,New;tables as maps.
-/
import Derived.Test.YthnbcmlnpdabhaaGreatGBq
import Derived.Maps.OwnSet
import Derived.Deep.CutBlock
namespace Go.Proofs.YthnbcmlnpdabhaaGreat
open _root_.Go.Proofs.Tryz
set_option maxHeartbeats 8000000
open Go.RowKit
set_option maxRecDepth 100000
set_option linter.unusedVariables false
variable {w w' w1 wr:World} {v:Value} {b g x lo c off:Nat} {n l:List (List UInt8)} {out s:List UInt8}
theorem JL{B:Nat}{q:List UInt8}(h:w.ownsRow B 5 1 v q.length (vT q)):(convert 145 9 v).run prog w= .ok (.string (bs q)) w:=by
 rcases h.2 with⟨rfl,h0⟩|⟨g,cap,cur,rfl,_⟩
 ·
  have:q=[]:=List.length_eq_zero_iff.1 h0;subst this;have:(convert 145 9 (.slice none 0 0)).run prog w= .ok (.string ⟨#[]⟩) w:=by kernel_rfl
  exact this
 ·refine run_convert_bytes_back w 145 9 5 ⟨g,0,none⟩ cap q underlying145 underlying5 underlying9 ?_;intro j hj;exact h.cells (g:=g) J j _ (DI q j hj)
def Nk(n:List (List UInt8))(k:Nat):List Nat:=(List.range k).map fun j=>vB (n.take j)
theorem Xf(n:List (List UInt8))(k:Nat):Nk n (k+1)=Nk n k++[vB (n.take k)]:=by simp[Nk,List.range_succ]
def ints(l:List Nat):List Value:=l.map fun(x:Nat)=>Value.int .i64 (x:Int)
theorem Ze(a b:List Nat):ints (a++b)=ints a++ints b:=by simp[ints]
theorem VY:(prog.info? 3).map (fun i=>(i.zero,i.size,i.bytes))=some (some (.int .i64 0),1,8):=by kernel_rfl
theorem I5(n:List (List UInt8))(k:Nat)(h:k<n.length):wX (n.take (k+1))=wX (n.take k)++[UInt8.ofNat n[k].length]++n[k]:=by
 rw[List.take_succ_eq_append_getElem h,KT];simp[wX,zX]
def abJ(n:List (List UInt8))(w:World)(e:Ending)(w':World):Prop:=
 ∃v,e= .returned (.tuple #[.string (bs (wX n)),v])/\w'.ownsRow w.heap.size 3 1 v n.length (ints (Nk n n.length))/\al w w'
theorem Lj(A:Option Addr)(c:Nat)(n:List (List UInt8))(w:World)(hA:AO w A n)(hg:yR n)(hs:vB n<=254):
  Calls prog 248 #[.slice A n.length c] w (abJ n w):=by
 have hnl:n.length<=254:=Nat.le_trans (z9 n) hs;obtain⟨i0,hi0,hz0,hz1,hz2⟩:=info_parts VY;go_enter func248,ntmps248;go_wp2_with(at_make;go_must(refine wpList_make_own _ J (.const (.int .i64 0)) (.tmp 9) 70 J w.heap.size 3 i0 (.int .i64 0) 1 underlying70 hi0 hz0 hz1 .i64 .i64 _ n.length J J J (by rw[hz2];omega) aK (Nat.le_refl _) ?_));intro w1 agO al0;have hB1:al w w1:=(Below.refl _ w).grown al0 (Nat.le_refl _) (by intro k z;cases z);clear al0;go_wp2_with fail;go_loopw[4,5,13] (fun b bg i wr=>∃k:Nat,k<=n.length/\i= .int .i64 k/\wr.ownsRow w.heap.size 5 1 b (wX (n.take k)).length (vT (wX (n.take k)))/\wr.ownsRow w.heap.size 3 1 bg k (ints (Nk n k))/\al w wr) (fun _ _ i _=>n.length-(intOf i).toNat)
 case atStart=>exact⟨0,Nat.zero_le _,J,World.ownsRow_nil _ _ _ _,agO,hB1⟩
 case round=>
  clear agO hB1;clear w1;obtain⟨k,z,rfl,Z,hbg,hB⟩:=hrel;obtain⟨Ab,cb,hv⟩:=ya Z;obtain⟨Ag,cg,hv2⟩:=ya hbg;rw[wA]at Z hv;have hle:=xc n k;by_cases aB:k<n.length
  ·
   have h1:(k:Int)<n.length:=I;obtain⟨ba,oa,rfl,hba,xa⟩:=hA I;have c1:=(hB.cell hba).trans (xa k aB);have ET:=Y (I5 n k aB);have aiE:=xc n (k+1);rw[DH n k aB]at aiE;have asT:=(hg n[k] (List.getElem_mem aB)).2;clear xa;rw[hv,hv2];rw[hv]at Z;rw[hv2]at hbg;clear hv hv2;go_wp2_with(at_builtin;go_must(refine Bo _ J (.tmp 17) (.tmp 20) 70 J 3 (.int .i64 0) 1 8 underlying70 VY J az w.heap.size _ k _ J (World.ownsRow.alloc hbg _) aT ⟨wr.heap.size,0,none⟩ 1 1 [.int .i64 (vB (n.take k))] J J (Cg _ _ _ _ J) (zO J) az aK I ?_));intro g2 akm w2 ati ahw agS;have hb2:=Ii (Z.alloc _) (hbg.alloc _) az ahw;have hB2:=xV (hB.alloc hB.size _) aT (hbg.alloc _) ahw;have aoq:w2.ownsRow w.heap.size 3 1 (.slice (some ⟨g2,0,none⟩) (k+1) akm) (k+1) (ints (Nk n (k+1))):=by rw[Xf,Ze];exact ati
   clear Z hbg ati ahw hB c1;go_wp2_with(at_builtin;go_must(refine Bo _ J (.tmp 22) (.tmp 26) 145 J 5 (.int .u8 0) 1 1 underlying145 DJ J az w.heap.size _ (vB (n.take k)) _ J (World.ownsRow.alloc hb2 _) aU ⟨w2.heap.size,0,none⟩ 1 1 [.int .u8 (n[k].length:Int)] J J (Cg _ _ _ _ J) (zO J) az aK I ?_));intro g3 azn w3 hb3 apE axW;have ath:=Ii (aoq.alloc _) (hb2.alloc _) az apE;have hB3:=xV (hB2.alloc hB2.size _) aU (hb2.alloc _) apE;obtain⟨q,hq⟩:∃q,q=wX (n.take k)++[UInt8.ofNat n[k].length]:=gG;have hql:q.length=vB (n.take k)+1:=by rw[hq,List.length_append,wA];rfl
   have ant:w3.ownsRow w.heap.size 5 1 (.slice (some ⟨g3,0,none⟩) (vB (n.take k)+1) azn) q.length (vT q):=by
    rw[hql,hq,Bl];have:vT [UInt8.ofNat n[k].length]=[.int .u8 (n[k].length:Int)]:=by simp[vT];omega
    rw[this];exact hb3
   have HQ:=Y hq;have aF3:q.length+n[k].length<=1000:=I;clear hb2 aoq hB2 apE hb3 hq hql;go_wp2_with(at_builtin;go_must(refine Rm _ J (.tmp 28) (.tmp 29) J w.heap.size _ q n[k] J ant hB3.size J I ?_));intro A4 c4 w4 hb4 apD;have ayw:=Ii ath ant az apD;have hB4:=xV hB3 hB3.size ant apD;have hE:q++n[k]=wX (n.take (k+1)):=by rw[ET.out,HQ.out]
   rw[hE]at hb4;have HE:=Y (show(wX (n.take (k+1))).length=q.length+n[k].length by rw[<-hE,List.length_append]);clear hE ant ath hB3 apD;go_wp2_with fail;go_roundw
   case rel=>exact⟨k+1,I,gp,by rw[HE.out];exact hb4,ayw,hB4⟩
   case measure=>simp[intOf];omega
  ·have h1:¬(k:Int)<n.length:=I;obtain rfl:k=n.length:=I;have ht:n.take n.length=n:=kt;rw[ht]at Z hv;rw[hv,hv2];rw[hv]at Z;rw[hv2]at hbg;rw[<-wA]at Z;have hcv:=JL Z;rw[wA]at hcv;clear hv hv2 ht Z;go_wp2_with fail;go_ret2;exact⟨_,J,hbg,hB⟩
open Go.RowKit Go.Maps
theorem Rw:Keyed prog 9:=string_keyed underlying9
theorem abK(w:World):(zeroValue 3).run prog w= .ok (.int .i64 0) w:=by kernel_rfl
def Af(w:World)(b n:Nat)(f:List UInt8->Option Nat):Prop:=
 ∃D:DataW Unit,w.ownsMap prog 9 (plainElem prog 3) b n D/\∀k,match f k with
  |none=>Maps.has D (.string k)=false
  |some x=>Maps.has D (.string k)=true/\∀abx,D.atKey (.string k) abx= .lit (.int .i64 (x:Int))
theorem Zf(k:List UInt8)(z:k.length<=maxLen):keyOf prog 9 (.string (bs k))=some (Lit.string k):=by
 have:=WideMaps.keyOf_string_mk underlying9 (s:=bs k) (by rw[xK];exact z);rwa[aby]at this
theorem Af.made(w:World):Af (w.alloc (.map #[] 0)) w.heap.size 0 (fun _=>none):=⟨.map [],World.ownsMap_made _ _ _ _,fun k=>rfl⟩
theorem Af.look{n:Nat}{f:List UInt8->Option Nat}(h:Af w b n f)(k:List UInt8)(z:k.length<=maxLen):
  (Instr.lookup 313 (.map (some b)) (.string (bs k)) true).run prog w= .ok (.tuple #[.int .i64 ((f k).getD 0:Nat),.bool (f k).isSome]) w:=by
 obtain⟨D,ho,hf⟩:=h;obtain⟨v,ps,alN,hv⟩:=ho.look_ok Rw underlying313 (abK w) (plainElem_int underlying3 (a:=0) az) (Zf k z);obtain⟨a,rfl,ha,_⟩:=plainElem_int_inv underlying3 hv;have hfk:=hf k;rw[alN];cases z:f k with
 |none=>rw[z]at hfk;simp only at hfk;rw[Maps.atKey_of_not_has hfk]at ha;have:a=0:=mj;subst this;rw[hfk];rfl
 |some x=>rw[z]at hfk;simp only at hfk;rw[hfk.2]at ha;have:a=(x:Int):=mj;subst this;rw[hfk.1];rfl
theorem Af.store{n:Nat}{f:List UInt8->Option Nat}(h:Af w b n f)(k:List UInt8)(z:k.length<=maxLen)(x:Nat)(hx:x<16384)(hn:n<maxLen):
  ∃w',(Instr.mapUpdate 313 (.map (some b)) (.string (bs k)) (.int .i64 (x:Int))).run prog w= .ok () w'/\Af w' b (n+1) (fun j=>if j=k then some x else f j)/\w.grownBy w' (some b):=by
 obtain⟨D,ho,hf⟩:=h;obtain⟨w',alN,ho',hg⟩:=ho.update Rw underlying313 hn (Zf k z) (plainElem_int underlying3 (a:=(x:Int)) (WalkArith.wf_i64 I));refine⟨w',alN,⟨_,ho',fun j=>?_⟩,hg⟩;by_cases hj:j=k
 ·subst hj;simp only[if_true];exact⟨Maps.has_put_same ho.isMap (show WideAt.IsKeyLit (Lit.string j)from trivial) _,fun abx=>Maps.atKey_put_same ho.isMap (show WideAt.IsKeyLit (Lit.string j)from trivial) _ _⟩
 ·
  simp only[if_neg hj];have hne:Lit.string j≠Lit.string k:=fun e=>hj (by injection e)
  have:=hf j;cases hfj:f j with
  |none=>rw[hfj]at this;simp only at this⊢;rw[Maps.has_put_other hne];exact this
  |some y=>rw[hfj]at this;simp only at this⊢;exact⟨by rw[Maps.has_put_other hne];exact this.1,fun abx=>by rw[Maps.atKey_put_other hne];exact this.2 abx⟩
theorem Af.kept{n:Nat}{f:List UInt8->Option Nat}{row:Option Nat}(h:Af w b n f)(hg:w.grownBy w' row)(hne:some b≠row):Af w' b n f:=by
 obtain⟨D,ho,hf⟩:=h;exact⟨D,ho.kept hg hne,hf⟩
theorem Af.lt{n:Nat}{f:List UInt8->Option Nat}(h:Af w b n f):b<w.heap.size:=by
 obtain⟨D,ho,hf⟩:=h;exact ho.lt
theorem Af.adJ{n:Nat}{f:List UInt8->Option Nat}{t:TypeId}{cs:List Value}(h:Af w b n f)(Z:F w g t cs):b≠g:=by
 rintro rfl;obtain⟨D,⟨es,N,hm,_⟩,_⟩:=h;unfold F at Z;rw[Z]at hm;cases hm
def Ce(w:World)(g b:Nat)(T:List (List (List UInt8)×Nat)):Prop:=
 F w g 315 [.map (some b)]/\(∃f,Af w b T.length f/\∀n,yR n->f (wX n)=look T n)/\∀r∈T,r.2<16384
def adL(w:World)(e:Ending)(w':World):Prop:=∃g b,e= .returned (.pointer (some ⟨g,0,none⟩))/\Ce w' g b []/\al w w'/\w.heap.size<=g/\w.heap.size<=b
theorem Zg(w:World):Calls prog 167 #[] w (adL w):=by
 have hmm:= @run_makeMap prog;go_enter func167,ntmps167;go_wp2;go_ret;refine⟨_,w.heap.size,J,⟨F.wE _ _ [.map (some w.heap.size)] _ ap,⟨fun _=>none,(Af.made w).kept (World.grownBy_alloc _ _ none) ap,fun n _=>rfl⟩,ap⟩,((Below.refl _ _).alloc (Nat.le_refl _) _).alloc ap _,ap,Nat.le_refl _⟩
def xP(uG:Int)(p:Nat)(n:List (List UInt8))(k:Nat):List (List (List UInt8)×Nat):=
 (List.range k).flatMap fun j=>if low uG (p+vB (n.take j))then[(n.drop j,(uG+(p+vB (n.take j):Nat)).toNat)]else[]
theorem zH(uG:Int)(p:Nat)(n:List (List UInt8))(k:Nat):xP uG p n (k+1)=xP uG p n k++(if low uG (p+vB (n.take k))then[(n.drop k,(uG+(p+vB (n.take k):Nat)).toNat)]else[]):=by
 simp[xP,List.range_succ,List.flatMap_append]
theorem Uy(uG:Int)(p:Nat)(n:List (List UInt8))(k:Nat)(h:uG<0\/16384<=uG):xP uG p n k=[]:=by
 have hl:∀q,low uG q=false:=by
  intro q;cases hq:low uG q with
  |false=>rfl
  |true=>have:=(Bi uG q).1 hq;omega
 induction k with
 |zero=>rfl
 |succ k ih=>rw[zH,ih,hl];rfl
theorem Io(uG:Int)(p:Nat)(n:List (List UInt8))(k:Nat):(xP uG p n k).length<=k:=by
 induction k with
 |zero=>exact Nat.le_refl _
 |succ k ih=>
  rw[zH,List.length_append];split
  ·simp;omega
  ·simp;omega
theorem Xg{uG:Int}{p:Nat}{k:Nat}{r:List (List UInt8)×Nat}(h:r∈xP uG p n k):∃j,j<k/\r.1=n.drop j/\r.2<16384:=by
 induction k with
 |zero=>cases h
 |succ k ih=>
  rw[zH]at h;rcases List.mem_append.1 h with h|h
  ·obtain⟨j,hj,U,X⟩:=ih h;exact⟨j,I,U,X⟩
  ·
   by_cases hc:low uG (p+vB (n.take k))=true
   ·rw[if_pos hc,List.mem_singleton]at h;have hl:=(Bi _ _).1 hc;refine⟨k,I,by rw[h],?_⟩;rw[h];simp only;omega
   ·rw[if_neg hc]at h;cases h
theorem NU(T:List (List (List UInt8)×Nat))(uG:Int)(pre:List UInt8)(n:List (List UInt8)):∀k,k<=n.length->(∀j,j<k->look T (n.drop j)=none)->
  FJ T uG pre n=((FJ T uG (pre++wX (n.take k)) (n.drop k)).1,xP uG pre.length n k++(FJ T uG (pre++wX (n.take k)) (n.drop k)).2):=by
 intro k;induction k with
 |zero=>intro _ _;simp[xP]
 |succ k ih=>
  intro z h;rw[ih I (fun j hj=>h j I)];have hd:n.drop k=n[k]::n.drop (k+1):=List.drop_eq_getElem_cons I;have hl:=h k I;rw[hd]at hl;rw[hd,KW hl];have e1:pre++wX (n.take k)++zX n[k]=pre++wX (n.take (k+1)):=by rw[List.take_succ_eq_append_getElem I,KT,List.append_assoc];simp[wX]
  have e2:(pre++wX (n.take k)).length=pre.length+vB (n.take k):=by rw[List.length_append,wA]
  rw[e1,e2,zH,hd,List.append_assoc]
theorem VZ(T:List (List (List UInt8)×Nat))(uG:Int)(n:List (List UInt8))(k q:Nat)(z:k<n.length)(h:∀j,j<k->look T (n.drop j)=none)(hq:look T (n.drop k)=some q):
  FJ T uG [] n=(wX (n.take k)++uA 2 (49152+q),xP uG 0 n k):=by
 rw[NU T uG [] n k I h];have hd:n.drop k=n[k]::n.drop (k+1):=List.drop_eq_getElem_cons z;rw[hd]at hq⊢;rw[Ie hq];simp
theorem RH(T:List (List (List UInt8)×Nat))(uG:Int)(n:List (List UInt8))(h:∀j,j<n.length->look T (n.drop j)=none):
  FJ T uG [] n=(wX n++[0],xP uG 0 n n.length):=by
 rw[NU T uG [] n n.length (Nat.le_refl _) h];simp[FJ]
theorem Xh{T:List (List (List UInt8)×Nat)}(h:look T n=none)(m:List (List UInt8)):look (T++[(n,x)]) m=if m=n then some x else look T m:=by
 by_cases hm:m=n
 ·subst hm;rw[if_pos J];unfold look at h⊢;rw[List.find?_append];have:T.find? (fun r=>r.1==m)=none:=aq;rw[this];simp
 ·rw[if_neg hm,Dt];intro r hr;rw[List.mem_singleton]at hr;subst hr;exact fun e=>hm e.symm
theorem Xi{T:List (List (List UInt8)×Nat)}{uG:Int}{k:Nat}(z:k<n.length)(h:look T (n.drop k)=none):look (T++xP uG 0 n k) (n.drop k)=none:=by
 rw[Dt]
 ·exact h
 ·exact sB
theorem NV(n:List (List UInt8))(k:Nat):(wX n).drop (vB (n.take k))=wX (n.drop k):=by
 have e:wX n=wX (n.take k)++wX (n.drop k):=l9;rw[e,<-wA,List.drop_left]
theorem Uz(n:List (List UInt8))(k:Nat):(wX n).take (vB (n.take k))=wX (n.take k):=by
 have e:wX n=wX (n.take k)++wX (n.drop k):=l9;rw[e,<-wA,List.take_left]
def I6(T:List (List (List UInt8)×Nat))(uG:Int)(n:List (List UInt8)):List UInt8:=if uE n=0 then(FJ T uG [] n).1 else[]
def Kl(T:List (List (List UInt8)×Nat))(uG:Int)(n:List (List UInt8)):List (List (List UInt8)×Nat):=if uE n=0 then T++(FJ T uG [] n).2 else T
theorem V0(p:Option Addr)(A:Option Addr)(c:Nat)(n:List (List UInt8))(uG:Int)(w:World)(hA:AO w A n)(hm:n.length<=281474976710656)(hc:uE n≠0):
  Calls prog 236 #[.pointer p,.slice A n.length c,.int .i64 uG] w (xX (.tuple #[.string (bs []),.int .i64 (uE n)]) w):=by
 have C:=zG A c n w hA hm;generalize uE n=e at*;have hc':(e !=0)=true:=iS;go_enter func236,ntmps236;exact sH
def Py(n:List (List UInt8)):List UInt8:=wX n++[0]
theorem abL(A:Option Addr)(c:Nat)(n:List (List UInt8))(uG:Int)(w:World)(hA:AO w A n)(hm:n.length<=281474976710656)(hc:uE n=0):
  Calls prog 236 #[.pointer none,.slice A n.length c,.int .i64 uG] w (uI (.tuple #[.string (bs (Py n)),.int .i64 0]) w):=by
 have C:=zG A c n w hA hm;obtain⟨hg,hs⟩:=xj hc;have hs':vB n<=254:=I;have aeI:=Lj A c n w hA hg hs';rw[hc]at C;have hl:(wX n).length<=254:=jt;clear hc hg;unfold Py;go_enter func236,ntmps236;go_wp2_with fail;refine C.mono ?_;rintro _ w1 ⟨rfl,rfl⟩;go_wp2_with fail;refine aeI.mono ?_;rintro _ w1 ⟨v,rfl,ho,hB⟩;generalize wX n=q at*;go_wp2_with fail;go_ret2;exact uI.mk J hB
def Zh(g b:Nat)(s:List UInt8)(T:List (List (List UInt8)×Nat))(w:World)(e:Ending)(w':World):Prop:=
 e= .returned (.tuple #[.string (bs s),.int .i64 0])/\Ce w' g b T/\w.grownBy w' (some b)
def Zi(g b:Nat)(T:List (List (List UInt8)×Nat))(n:List (List UInt8))(uG:Int)(w:World)(bg out:Value)(wx:World):Prop:=
 ∃(k c:Nat) (A:Option Addr),k<=n.length/\bg= .slice A k c/\out= .string (bs (FJ T uG [] n).1)/\(FJ T uG [] n).2=xP uG 0 n k/\(∀j,j<k->look T (n.drop j)=none)/\
  (∀i,i<k->∃B,A=some ⟨B,0,none⟩/\w.heap.size<=B/\B<wx.heap.size/\wx.cell? ⟨B,i,none⟩=some (.int .i64 (vB (n.take i))))/\Ce wx g b T/\al w wx
theorem Ce.G{T:List (List (List UInt8)×Nat)}(h:Ce w g b T)(Z:al w w'):Ce w' g b T:=by
 obtain⟨U,⟨f,X,h3⟩,h4⟩:=h;exact⟨U.G Z U.lt,⟨f,X.kept (uM Z none) ap,h3⟩,h4⟩
theorem NW{T T':List (List (List UInt8)×Nat)}(ho:out=s)(hT:T=T')(h:Ce w' g b T)(hg:w.grownBy w' (some b)):Zh g b s T' w (.returned (.tuple #[.string (bs out),.int .i64 0])) w':=by
 subst ho hT;exact⟨J,h,hg⟩
theorem NY{k c1:Nat}{T:List (List (List UInt8)×Nat)}{uG:Int}{wx:World}{A1:Option Addr}(z:k<=n.length)(hp:FJ T uG [] n=(s,xP uG 0 n k))
  (HN:Hid (∀j,j<k->look T (n.drop j)=none)) (ho:w1.ownsRow w.heap.size 3 1 (.slice A1 n.length c1) n.length (ints (Nk n n.length))) (hT:Ce w1 g b T) (hB:al w w1) (hx:al w1 wx):
  Zi g b T n uG w (.slice A1 k c1) (.string (bs s)) wx:=by
 refine⟨k,c1,A1,z,J,by rw[hp],by rw[hp],HN.out,?_,hT.G hx,um hB hB.size hx⟩;intro i hi;rcases ho.2 with⟨_,h0⟩|⟨B,cap,cur,hv,hBb,hh,_⟩
 ·omega
 ·injection hv with U X h3;subst U h3;have aB:B<w1.heap.size:=(ho.lt B J).2;refine⟨B,J,hBb,Nat.lt_of_lt_of_le aB hx.size,(hx.cell aB).trans ?_⟩;rw[ho.cellAt i I];simp[ints,Nk,show i<n.length by omega]
theorem abM{T:List (List (List UInt8)×Nat)}{f:List UInt8->Option Nat}{key:List UInt8}(hTb:F wr g 315 [.map (some b)])(hne:b≠g)
  (hM:Af w' b (T.length+1) (fun k=>if k=key then some x else f k)) (hf:∀m,yR m->f (wX m)=look T m) (ag3:∀r∈T,r.2<16384) (asV:key=wX n) (hn:yR n) (hl:look T n=none) (hx:x<16384) (hg:wr.drew.grownBy w' (some b)):
  Ce w' g b (T++[(n,x)]):=by
 refine⟨(F.drew hTb).grown hg (fun e=>hne (by injection e with e;exact e.symm)),⟨_,by simpa using hM,fun m hm=>?_⟩,?_⟩
 ·
  rw[Xh hl m];by_cases e:m=n
  ·subst e;rw[if_pos J,if_pos asV.symm]
  ·rw[if_neg e,if_neg (fun h=>e (YX m n hm hn (h.trans asV)))];exact hf m hm
 ·
  intro r hr;rcases List.mem_append.1 hr with h|h
  ·exact ag3 r h
  ·rw[List.mem_singleton]at h;rw[h];exact hx
theorem abN(g b:Nat)(T:List (List (List UInt8)×Nat))(A:Option Addr)(c:Nat)(n:List (List UInt8))(uG:Int)(w:World)(hT:Ce w g b T)(hA:AO w A n)(hm:n.length<=281474976710656)(hc:uE n=0)(hTl:T.length<=1000000):
  Calls prog 236 #[.pointer (some ⟨g,0,none⟩),.slice A n.length c,.int .i64 uG] w (Zh g b (FJ T uG [] n).1 (T++(FJ T uG [] n).2) w):=by
 have C:=zG A c n w hA hm;obtain⟨hg,hs⟩:=xj hc;have hs':vB n<=254:=I;have aeI:=Lj A c n w hA hg hs';rw[hc]at C;have hl:(wX n).length<=254:=jt;have hnl:n.length<=254:=lX;have GG:=Y (show yR n from hg);clear hc hg;go_enter func236,ntmps236;go_wp2_with fail;refine C.mono ?_;rintro _ w1 ⟨rfl,rfl⟩;go_wp2_with fail;refine aeI.mono ?_;rintro _ w1 ⟨v,rfl,ho,hB⟩;have hT1:=hT.G hB;obtain⟨A1,c1,hv⟩:=ya ho;rw[hv]at ho⊢;clear hv C aeI;obtain⟨q,hq⟩:∃q,q=wX n:=gG;rw[<-hq]at hl⊢;have HQ:=Y hq;clear hq;go_upto_block 0 with fail;go_cut[10,11] (fun bg out wx=>Zi g b T n uG w bg out wx)
 case first=>
  obtain⟨hTb,⟨f,hM,hf⟩,ag3⟩:=hT1;have tc:=hTb.M 0 J;have HF:=Y hf;have aix:=Y ag3;clear hf ag3;go_wp2_with fail;go_loopg [10,11,36] n.length (fun kk bg out i wr=>∃k:Nat,k<=n.length/\kk=n.length-k/\i= .int .i64 k/\bg= .slice A1 n.length c1/\out= .string (bs (q++[0]))/\Hid (∀j,j<k->look T (n.drop j)=none)/\∃d,wr=w1.drewN d)
  case atStart=>exact⟨0,Nat.zero_le _,J,J,J,J,Y (fun j hj=>by omega),0,J⟩
  case round=>
   obtain⟨k,z,hgk,rfl,rfl,rfl,HN,d,rfl⟩:=hrel;have HGK:=Y hgk;clear hgk;by_cases aB:k<n.length
   ·
    have h1:(k:Int)<n.length:=I;obtain⟨B,hA1⟩:∃B,A1=some ⟨B,0,none⟩:=by
     rcases ho.2 with⟨_,h0⟩|⟨B,cap,cur,hv,_⟩
     ·omega
     ·exact⟨B,by injection hv⟩
    subst hA1;have ag5:=ho.cellAt k I;have hbk:(ints (Nk n n.length))[k]?=some (.int .i64 (vB (n.take k):Int)):=by simp[ints,Nk,aB]
    rw[hbk]at ag5;have apv:=xc n k;have hd1:q.drop (vB (n.take k))=wX (n.drop k):=by rw[HQ.out,NV]
    have HD1:=Y hd1;clear hd1 hbk;obtain⟨p,hp⟩:∃p,p=vB (n.take k):=gG;rw[<-hp]at ag5 HD1 apv;have HP:=Y hp;have hpq:(p:Int)<=q.length:=by have e:q.length=vB n:=oH;omega
    clear hp;have aim:∀d',(Instr.lookup 313 (.map (some b)) (.string (bs (q.drop p))) true).run prog (w1.drewN d')= .ok (.tuple #[.int .i64 ((f (q.drop p)).getD 0:Nat),.bool (f (q.drop p)).isSome]) (w1.drewN d'):=fun d'=>
     (show Af (w1.drewN d') b T.length f from hM).look (q.drop p) aV
    have hfk:f (q.drop p)=look T (n.drop k):=by rw[HD1.out];exact HF.out _ (GG.out.drop k)
    cases uw:look T (n.drop k)with
    |none=>
     rw[uw]at hfk;rw[hfk]at aim;simp only[Option.getD_none,Option.isSome_none]at aim;have HLO:=Y uw;clear uw hfk;go_wp2_with fail;go_quiet(fail);go_wp2_with fail;go_roundg (n.length-(k+1))
     case measure=>have:=HGK.out;omega
     case rel=>exact⟨k+1,I,J,gp,J,J,Y (fun j hj=>by
      by_cases e:j=k
      ·subst e;exact HLO.out
      ·
       exact HN.out j I),_,J⟩
    |some q0=>
     rw[uw]at hfk;rw[hfk]at aim;simp only[Option.getD_some,Option.isSome_some]at aim;have hq0:q0<16384:=aix.out _ (KX uw);have alZ:=VZ T uG n k q0 aB HN.out uw;have HH:=Y alZ;have htk:q.take p=wX (n.take k):=by rw[HQ.out,HP.out,Uz]
     have HTK:=Y htk;clear uw hfk alZ htk;have agT:n.length<=c1:=by
      rcases ho.2 with⟨hv,_⟩|⟨_,_,_,hv,_,_,hh,_⟩
      ·cases hv
      ·injection hv with _ _ h3;omega
     go_wp2_with fail;go_quiet(fail);go_wp2_with fail;have hw1:IntKind.i64.wrap (49152+(q0:Int))=49152+(q0:Int):=jk;obtain⟨W,hW⟩:∃W,W=(w1.drewN d).drewN nq:=gG;rw[<-hW];have hBW:al w1 W:=hW▸below_drewN (below_drewN (Below.refl _ _) _) _;clear hW;have hpl:=uy 2 (49152+(q0:Int));have agU:∀W:World,(Op.stringOp .add (bs (q.take p)) (bs (uA 2 (49152+(q0:Int))))).run prog W= .ok (.string (bs (q.take p++uA 2 (49152+(q0:Int))))) W:=fun W=>by rw[run_string_add_sum W _ _ (by simp only[xK,List.length_take];omega),KN]
     clear hpl;go_region_held3(fun w'=>al W w') (first|exact(Below.refl _ _).drew|exact IY aW b3)
      ((go_at_call 117;refine(wQ _ _ _).mono ?_;rw[show hw 2=2 from J];rintro e w3 ⟨rfl,b3⟩))
     clear agU;go_wp2_with fail;go_meet
     case rel=>exact NY z (by rw[HTK.out];exact HH.out) HN ho ⟨hTb,⟨f,hM,HF.out⟩,aix.out⟩ hB (um hBW hBW.size aW)
   ·
    obtain rfl:k=n.length:=I;have akv:=Y (RH T uG n HN.out);have h1:¬(n.length:Int)<n.length:=I;go_wp2_with fail;go_meet
    case rel=>exact NY (Nat.le_refl _) (by rw[HQ.out];exact akv.out) HN ho ⟨hTb,⟨f,hM,HF.out⟩,aix.out⟩ hB (below_drewN (Below.refl _ _) _)
 case rest=>
  have hbw:b<w.heap.size:=hT.2.1.elim fun f h=>h.1.lt
  obtain⟨k,c2,A2,hk2,rfl,rfl,aoa,aod,al6,hT2,hB2⟩:=hcut;have HR:=Y aoa;have HN:=Y aod;have HCE:=Y al6;clear aoa aod al6 ho hT1 hB hT;obtain⟨out,ho⟩:∃out,out=(FJ T uG [] n).1:=gG;rw[<-ho];have HO:=Y ho;clear ho;by_cases hat:uG<0\/16384<=uG
  ·
   have hrn:=Uy uG 0 n k hat;have HRN:=Y hrn;clear hrn;have hB3:=uM hB2 (some b);rcases hat with h|h
   ·have d1:decide (uG<0)=true:=decide_eq_true h;exact tX
   ·have h0:0<=uG:=I;have d1:decide (uG<0)=false:=iz;exact tX
  ·
   have h0:0<=uG:=I;have U:uG<16384:=I;have d1:decide (uG<0)=false:=iz;have d2:decide (16384<=uG)=false:=iz;have tc:=hT2.1.M 0 J;have hem:∀W:World,(binOp .eql 313 (.map (some b)) (.map none)).run prog W= .ok (.bool false) W:=fun W=>by rw[run_eql_map_nil W 313 _ _ _ underlying313];rfl
   clear hat;go_wp2_with fail;go_loopg [82] k (fun kk i wr=>∃j:Nat,j<=k/\kk=k-j/\i= .int .i64 j/\Ce wr g b (T++xP uG 0 n j)/\wc.grownBy wr (some b))
   case atStart=>exact⟨0,Nat.zero_le _,J,J,by simpa[xP]using hT2,World.grownBy.refl _ _⟩
   case round=>
    obtain⟨j,hj,hgk,rfl,hTj,hgr⟩:=hrel;have HGK:=Y hgk;clear hgk tc hT2;by_cases aB:j<k
    ·
     have h1:(j:Int)<k:=I;obtain⟨B,hA2,hBw,hBx,ahL⟩:=HCE.out j aB;subst hA2;have ag5:=(y8 hgr ⟨B,j,none⟩ hBx aA).trans ahL;have apv:=xc n j;obtain⟨p,hp⟩:∃p,p=vB (n.take j):=gG;rw[<-hp]at ag5 apv;have HP:=Y hp;have hqe:q.length=vB n:=oH;have hpq:(p:Int)<=q.length:=I;have hd1:q.drop p=wX (n.drop j):=by rw[HQ.out,HP.out,NV]
     have HD1:=Y hd1;have HL:=Y (Xi (uG:=uG) (show j<n.length by omega) (HN.out j aB));clear hp hqe hd1 ahL;obtain⟨hTb,⟨f,hM,hf⟩,ag3⟩:=hTj;have HF:=Y hf;have aix:=Y ag3;have tc:=hTb.M 0 J;clear hf ag3;by_cases uw:uG+p<16384
     ·
      have hx:((uG.toNat+p:Nat):Int)=uG+p:=I;obtain⟨w',alN,hM',hg'⟩:=(show Af wr.drew b _ f from hM).store (q.drop p) aV (uG.toNat+p) I (by have:=Io uG 0 n j;simp only[maxLen,List.length_append];omega);rw[hx]at alN;have hw1:IntKind.i64.wrap (uG+(p:Int))=uG+(p:Int):=jk;clear hx;have hRS:xP uG 0 n (j+1)=xP uG 0 n j++[(n.drop j,uG.toNat+p)]:=by have e:(uG+((0+p:Nat):Int)).toNat=uG.toNat+p:=I;rw[zH,<-HP.out,e,if_pos ((Bi _ _).2 ⟨h0,U,by simpa using uw⟩)]
      have hTN:Ce w' g b (T++xP uG 0 n (j+1)):=by rw[hRS,<-List.append_assoc];exact abM hTb (hM.adJ hTb) hM' HF.out aix.out HD1.out (GG.out.drop j) HL.out I hg'
      have ahw:wc.grownBy w' (some b):=uC (yv hgr) hg' (.inl J);clear hRS hM' hg';go_wp2_with fail;go_region;go_wp2_with fail;go_roundg (k-(j+1))
      case measure=>have:=HGK.out;omega
      case rel=>exact⟨j+1,I,J,gp,hTN,ahw⟩
     ·
      have ajx:16384<=uG+p:=I;have hRS:xP uG 0 n (j+1)=xP uG 0 n j:=by rw[zH,<-HP.out,if_neg (by rw[Bi];simp;omega),List.append_nil]
      have hTN:Ce wr g b (T++xP uG 0 n (j+1)):=by rw[hRS];exact⟨hTb,⟨f,hM,HF.out⟩,aix.out⟩
      clear hRS;go_wp2_with fail;go_roundg (k-(j+1))
      case measure=>have:=HGK.out;omega
      case rel=>exact⟨j+1,I,J,gp,hTN,hgr⟩
    ·obtain rfl:j=k:=I;have h1:¬(j:Int)<j:=I;go_wp2_with fail;go_ret2;exact NW HO.out (by rw[HR.out]) hTj (uC (uM hB2 (some b)) hgr (.inl J))
def GL(lo:Nat)(w:World)(v:Value)(l:List (List UInt8)):Prop:=
 ∃A c,v= .slice A l.length c/\(0<l.length->∃b off,A=some ⟨b,off,none⟩/\b<lo/\∀i (hi:i<l.length),w.cell? ⟨b,off+i,none⟩=some (.string (bs l[i])))
theorem GL.G(h:GL lo w v l)(Z:Below lo w w'):GL lo w' v l:=by
 obtain⟨A,c,hv,h⟩:=h;refine⟨A,c,hv,fun hp=>?_⟩;obtain⟨b,off,hA,aB,hc⟩:=h hp;exact⟨b,off,hA,aB,fun i hi=>(Z.cell aB).trans (hc i hi)⟩
theorem GL.toR{A:Option Addr}{k:Nat}(h:GL lo w (.slice A k c) l)(uw:lo<=w.heap.size):k=l.length/\AO w A l:=by
 obtain⟨A',c',hv,h⟩:=h;injection hv with U X h3;subst U X h3;refine⟨J,fun hp=>?_⟩;obtain⟨b,off,hA,aB,hc⟩:=h hp;exact⟨b,off,hA,I,hc⟩
def zA:List Value->List (List (List UInt8)×Nat)->List Value
 |v::vs,r::T=>v:: .int .i64 (r.2:Int)::zA vs T
 |_,_=>[]
theorem GW:∀(vs:List Value) (T:List (List (List UInt8)×Nat)) (v:Value) (r:List (List UInt8)×Nat),vs.length=T.length->zA (vs++[v]) (T++[r])=zA vs T++[v,.int .i64 (r.2:Int)]
 |[],[],v,r,_=>rfl
 |u::vs,x::T,v,r,h=>by
  simp only[List.cons_append,zA];rw[GW vs T v r aq]
theorem Ip:∀(vs:List Value) (T:List (List (List UInt8)×Nat)) (i:Nat) (hv:i<vs.length) (ht:i<T.length),vs.length=T.length->(zA vs T)[i*2]?=some vs[i]/\(zA vs T)[i*2+1]?=some (.int .i64 (T[i].2:Int))
 |v::vs,r::T,0,_,_,_=>⟨J,J⟩
 |v::vs,r::T,i+1,hv,ht,h=>by
  have:=Ip vs T i (by simpa using hv) (by simpa using ht) aq;simp only[zA,List.getElem_cons_succ];rw[show(i+1)*2=i*2+1+1 by omega];exact this
def GM(lo:Nat)(w:World)(g:Nat)(T:List (List (List UInt8)×Nat)):Prop:=
 ∃(vs:List Value) (v:Value),vs.length=T.length/\F w g 208 [v]/\w.ownsRow lo 273 2 v T.length (zA vs T)/\(∀i (hv:i<vs.length) (ht:i<T.length),GL lo w vs[i] T[i].1)/\(∀r∈T,r.1.length<=254/\r.2<16384)
theorem abO:(prog.info? 273).map (fun i=>(i.zero,i.size,i.bytes))=some (some (.agg #[.slice none 0 0,.int .i64 0]),2,32):=by kernel_rfl
def JM(T:List (List (List UInt8)×Nat))(n:List (List UInt8)):Int:=match look T n with
 |some q=>q
 |none=> -1
theorem Xj{T:List (List (List UInt8)×Nat)}{k:Nat}(z:k<T.length)(h:look (T.take k) n=none):(T[k].1=n->look T n=some T[k].2)/\(T[k].1≠n->look (T.take (k+1)) n=none):=by
 have hT:T=T.take k++(T[k]::T.drop (k+1)):=by rw[<-List.drop_eq_getElem_cons z,List.take_append_drop]
 have h0:(T.take k).find? (fun r=>r.1==n)=none:=by simpa[look]using h
 constructor
 ·
  intro e;have key:∀(r:List (List UInt8)×Nat) (arE:List (List (List UInt8)×Nat)),r.1=n->look (T.take k++(r::arE)) n=some r.2:=by intro r arE hr;unfold look;rw[List.find?_append,h0];simp[hr]
  have:=key T[k] (T.drop (k+1)) e;rwa[<-hT]at this
 ·intro e;unfold look;rw[List.take_succ_eq_append_getElem z,List.find?_append,h0];simp[e]
theorem Zj(lo g:Nat)(T:List (List (List UInt8)×Nat))(A:Option Addr)(c:Nat)(n:List (List UInt8))(w:World)(hT:GM lo w g T)(uw:lo<=w.heap.size)(hA:AO w A n)(hn:0<n.length)(hnl:n.length<=254)(hTl:T.length<=1000000):
  Calls prog 163 #[.pointer (some ⟨g,0,none⟩),.slice A n.length c] w (uI (.int .i64 (JM T n)) w):=by
 obtain⟨vs,v,hvl,Z,adU,htx,ag3⟩:=hT;obtain⟨Av,cv,hv⟩:=ya adU;subst hv;have HTX:=Y htx;have aix:=Y ag3;have HVL:=Y hvl;clear htx ag3 hvl;have hn0:((n.length:Int)==0)=false:=by rw[beq_eq_false_iff_ne];omega
 go_enter func163,ntmps163;go_wp2_with fail;go_loopw[5] (fun i wr=>∃k:Nat,k<=T.length/\i= .int .i64 k/\Hid (look (T.take k) n=none)/\al w wr) (fun i _=>T.length-(intOf i).toNat)
 case atStart=>exact⟨0,Nat.zero_le _,J,Y J,Below.refl _ _⟩
 case round=>
  obtain⟨k,z,rfl,HN,hB⟩:=hrel;have tc:=(Z.G hB Z.lt).M 0 J;by_cases aB:k<T.length
  ·
   have h1:(k:Int)<T.length:=I;have hvk:k<vs.length:=by rw[HVL.out];exact aB
   obtain⟨agc,hAv⟩:∃agc,Av=some ⟨agc,0,none⟩:=by
    rcases adU.2 with⟨_,h0⟩|⟨agc,cap,cur,hv,_⟩
    ·omega
    ·exact⟨agc,by injection hv⟩
   subst hAv;have hGl:=(adU.lt agc J).2;obtain⟨g1,g2⟩:=Ip vs T k hvk aB HVL.out;have r1:=(hB.cell (p:=⟨agc,k*2,none⟩) hGl).trans ((adU.cellAt (k*2) I).trans g1);have r2:=(hB.cell (p:=⟨agc,k*2+1,none⟩) hGl).trans ((adU.cellAt (k*2+1) I).trans g2);have hL1:=HTX.out k hvk aB;obtain⟨A1,c1,hv1,_⟩:=id hL1;rw[hv1]at r1 hL1;have hR1:=((hL1.G (hB.mono uw)).toR (Nat.le_trans uw hB.size)).2;have hRn:=hA.G hB;have hTk:=(aix.out T[k] (List.getElem_mem aB)).1;have hLT:=Xj aB HN.out;have HLT:=Y hLT;clear g1 g2 hv1 hL1 hLT;obtain⟨r,hr⟩:∃r,r=T[k]:=gG;rw[<-hr]at r1 r2 hR1 hTk HLT;clear hr;by_cases he:r.1=n
   ·
    have aim:=HLT.out.1 he;have hLI:JM T n=r.2:=by unfold JM;rw[aim]
    have HLI:=Y hLI;have HE:=Y he;clear aim hLI he;go_wp2_with fail;refine(AV A1 A r.1 n _ _ _ hR1 hRn I I).mono ?_;rw[decide_eq_true HE.out];rintro _ w2 ⟨rfl,hB2⟩;have ai8:=um hB hB.size hB2;have tc2:=(Z.G ai8 Z.lt).M 0 J;have r22:=(hB2.cell (p:=⟨agc,k*2+1,none⟩) (Nat.lt_of_lt_of_le hGl hB.size)).trans r2;clear tc r1 r2 hB2 hR1 hRn;go_wp2_with fail;go_ret;exact uI.mk (yE HLI.out.symm) ai8
   ·
    have hno:=HLT.out.2 he;have HNO:=Y hno;have HE:=Y he;clear hno he;go_wp2_with fail;refine(AV A1 A r.1 n _ _ _ hR1 hRn I I).mono ?_;rw[decide_eq_false HE.out];rintro _ w2 ⟨rfl,hB2⟩;have ai8:=um hB hB.size hB2;clear tc r1 r2 hB2 hR1 hRn;go_wp2_with fail;go_roundw
    case rel=>exact⟨k+1,I,gp,HNO,ai8⟩
    case measure=>simp[intOf];omega
  ·
   have h1:¬(k:Int)<T.length:=I;have hLI:JM T n= -1:=by have:=HN.out;rw[List.take_of_length_le I]at this;unfold JM;rw[this]
   have HLI:=Y hLI;clear hLI;go_wp2_with fail;go_ret;exact uI.mk (yE HLI.out.symm) hB
theorem Zk(A:Option Addr)(c:Nat)(n:List (List UInt8))(w:World):
  Calls prog 163 #[.pointer none,.slice A n.length c] w (xX (.int .i64 (-1)) w):=by
 go_enter func163,ntmps163;exact pv
theorem AO.drop(h:∀i (hi:i<n.length),w.cell? ⟨b,off+i,none⟩=some (.string (bs n[i])))(Z:b<w.heap.size)(k:Nat):AO w (some ⟨b,off+k,none⟩) (n.drop k):=by
 intro _;refine⟨b,off+k,J,Z,fun i hi=>?_⟩;exact tH
theorem GL.drop(h:∀i (hi:i<n.length),w.cell? ⟨b,off+i,none⟩=some (.string (bs n[i])))(Z:b<lo)(k:Nat):GL lo w (.slice (some ⟨b,off+k,none⟩) (n.drop k).length c) (n.drop k):=by
 refine⟨_,_,J,fun _=>⟨b,off+k,J,Z,fun i hi=>?_⟩⟩;exact tH
theorem UA{T:List (List (List UInt8)×Nat)}{uG:Int}{k:Nat}(z:k<n.length):look (T++xP uG 0 n k) (n.drop k)=look T (n.drop k):=by
 rw[Dt];exact sB
def vV(lo:Nat)(w w':World):Prop:=Below lo w w'/\∀k t cs,F w k t cs->t≠208->t≠273->F w' k t cs
theorem vV.trans{w2:World}(h:vV lo w w1)(h':vV lo w1 w2):vV lo w w2:=⟨h.1.trans h'.1,fun k t cs Z U X=>h'.2 k t cs (h.2 k t cs Z U X) U X⟩
theorem vV.y9(h:al w w1)(uw:lo<=w.heap.size):vV lo w w1:=⟨h.mono uw,fun k t cs Z _ _=>Z.G h Z.lt⟩
theorem vV.refl(lo:Nat)(w:World):vV lo w w:=⟨Below.refl _ _,fun _ _ _ h _ _=>h⟩
theorem Zl{gg cap:Nat}{T:List (List (List UInt8)×Nat)}{o:Obj}{vs:List Value}{sl:Value}(hvl:vs.length=T.length)(Z:F wr g 208 [v])
  (adU:wr.ownsRow lo 273 2 v T.length (zA vs T)) (htx:∀i (hv:i<vs.length) (ht:i<T.length),GL lo wr vs[i] T[i].1) (ag3:∀r∈T,r.1.length<=254/\r.2<16384) (uw:lo<=wr.heap.size) (hg:lo<=g)
  (agO:w1.ownsRow lo 273 2 (.slice (some ⟨gg,0,none⟩) (T.length+1) cap) (T.length+1) (zA vs T++[sl,.int .i64 (x:Int)])) (agJ:(wr.alloc o).drew.grownBy w1 v.ownBlock)
  (hsl:GL lo wr sl n) (hn:n.length<=254) (hx:x<16384):
  GM lo (w1.setCell ⟨g,0,none⟩ (.slice (some ⟨gg,0,none⟩) (T.length+1) cap)) g (T++[(n,x)])/\vV lo wr (w1.setCell ⟨g,0,none⟩ (.slice (some ⟨gg,0,none⟩) (T.length+1) cap)):=by
 have hb1:F w1 g 208 [v]:=wh (Z.alloc o).drew (adU.alloc o) az agJ;have hB:Below lo wr (w1.setCell ⟨g,0,none⟩ (.slice (some ⟨gg,0,none⟩) (T.length+1) cap)):=(((Below.refl lo wr).alloc uw o).drew.grown agJ aA (xZ adU)).setCell hg _;have hK:∀k t cs,F wr k t cs->t≠208->t≠273->F (w1.setCell ⟨g,0,none⟩ (.slice (some ⟨gg,0,none⟩) (T.length+1) cap)) k t cs:=by intro k t cs z U X;have hk1:F w1 k t cs:=wh (z.alloc o).drew (adU.alloc o) X agJ;refine hk1.y7 (fun e=>?_) _;subst e;unfold F at hk1 hb1;rw[hb1]at hk1;injection hk1 with hk1;injection hk1 with _ ht;exact U ht.symm
 refine⟨⟨vs++[sl],_,by simp[hvl],hb1.set 0 _,?_,?_,?_⟩,hB,hK⟩
 ·
  rw[GW vs T sl _ hvl];have hne:gg≠g:=by
   rintro rfl;rcases agO.2 with⟨h,_⟩|⟨g',_,_,hv,_,hh,_⟩
   ·cases h
   ·injection hv with U;injection U with U;injection U with U;subst U;unfold F at hb1;rw[hh]at hb1;injection hb1 with hb1;injection hb1 with _ ht;exact absurd ht az
  have:=ownsRow_setCell_other agO (a:=⟨g,0,none⟩) aN (.slice (some ⟨gg,0,none⟩) (T.length+1) cap);simpa using this
 ·
  intro i hv ht;by_cases hi:i<T.length
  ·have e1:(vs++[sl])[i]=vs[i]'I:=nU;have e2:(T++[(n,x)])[i]=T[i]:=nU;rw[e1,e2];exact(htx i I hi).G hB
  ·
   have hiT:i=T.length:=by simp at ht;omega
   subst hiT;have e1:(vs++[sl])[T.length]=sl:=by simp[<-hvl]
   have e2:(T++[(n,x)])[T.length]=(n,x):=ap;rw[e1,e2];exact hsl.G hB
 ·
  intro r hr;rcases List.mem_append.1 hr with h|h
  ·exact ag3 r h
  ·rw[List.mem_singleton]at h;rw[h];exact⟨hn,hx⟩
theorem GM.G{T:List (List (List UInt8)×Nat)}(h:GM lo w g T)(uw:lo<=w.heap.size)(Z:al w w'):GM lo w' g T:=by
 obtain⟨vs,v,U,X,h3,h4,h5⟩:=h;exact⟨vs,v,U,X.G Z X.lt,wC h3 Z,fun i hv ht=>(h4 i hv ht).G (Z.mono uw),h5⟩
def V4(lo g:Nat)(s:List UInt8)(T:List (List (List UInt8)×Nat))(w:World)(e:Ending)(w':World):Prop:=
 e= .returned (.tuple #[.string (bs s),.int .i64 0])/\GM lo w' g T/\vV lo w w'
theorem Lk{T T':List (List (List UInt8)×Nat)}(ho:out=s)(hT:T=T')(h:GM lo w' g T)(hg:vV lo w w'):V4 lo g s T' w (.returned (.tuple #[.string (bs out),.int .i64 0])) w':=by
 subst ho hT;exact⟨J,h,hg⟩
theorem Lm(p:Option Addr)(A:Option Addr)(c:Nat)(n:List (List UInt8))(uG:Int)(w:World)(hA:AO w A n)(hm:n.length<=281474976710656)(hc:uE n≠0):
  Calls prog 112 #[.pointer p,.slice A n.length c,.int .i64 uG] w (xX (.tuple #[.string (bs []),.int .i64 (uE n)]) w):=by
 have C:=vD A c n w hA hm;generalize uE n=e at*;have hc':(e !=0)=true:=iS;go_enter func112,ntmps112;exact sH
theorem both{p q:Prop}(h:p)(f:p->q):p/\q:=⟨h,f h⟩
theorem Ln{a b:List UInt8}{e:Int}(h:a=b):Ending.returned (.tuple #[.string (bs a),.int .i64 e])= .returned (.tuple #[.string (bs b),.int .i64 e]):=by rw[h]
theorem Zm:uA 1 0=[0]:=by decide
theorem adi(k:Nat)(h:k<=255):uA 1 (k:Int)=[UInt8.ofNat k]:=by
 have e:((k:Int)%256).toNat=k:=I;simp[uA,e]
theorem UB(lo g:Nat)(T:List (List (List UInt8)×Nat))(A:Option Addr)(c:Nat)(n:List (List UInt8))(uG:Int)(w:World)(hT:GM lo w g T)(uw:lo<=w.heap.size)(hgl:lo<=g)(hA:GL lo w (.slice A n.length c) n)(agT:n.length<=c)(hc:uE n=0)(hTl:T.length<=900000):
  Calls prog 112 #[.pointer (some ⟨g,0,none⟩),.slice A n.length c,.int .i64 uG] w (V4 lo g (FJ T uG [] n).1 (T++(FJ T uG [] n).2) w):=by
 obtain⟨hg,hs⟩:=xj hc;have hs':vB n<=254:=I;have hnl:n.length<=254:=lX;have C:=vD A c n w (hA.toR uw).2 I;rw[hc]at C;have GG:=Y (show yR n from hg);clear hc hg;go_enter func112,ntmps112;go_wp2_with fail;refine C.mono ?_;rintro _ w1 ⟨rfl,rfl⟩;go_wp2_with fail;go_loopw[9,10] (fun s i wr=>∃k:Nat,k<=n.length/\i= .int .i64 k/\s= .string (bs (wX (n.take k)))/\Hid (∀j,j<k->look T (n.drop j)=none)/\GM lo wr g (T++xP uG 0 n k)/\vV lo w wr) (fun _ i _=>n.length-(intOf i).toNat)
 case atStart=>exact⟨0,Nat.zero_le _,J,J,Y (fun j hj=>by omega),by simpa[xP]using hT,vV.refl _ _⟩
 case round=>
  clear C hT;obtain⟨k,z,rfl,rfl,HN,hT,hBK⟩:=hrel;have hB:=hBK.1;have ag4:lo<=wr.heap.size:=wI hB uw;have hrl:=Io uG 0 n k;by_cases aB:k<n.length
  ·
   have h1:(k:Int)<n.length:=I;obtain⟨A0,c0,hv0,hA0⟩:=id hA;injection hv0 with e1 _ e3;subst e1 e3;obtain⟨ba,oa,rfl,hba,xa⟩:=hA0 I;have xw:∀i (hi:i<n.length),wr.cell? ⟨ba,oa+i,none⟩=some (.string (bs n[i])):=fun i hi=>(hB.cell hba).trans (xa i hi)
   have XW:=Y xw;clear hA0 xa xw;have agH:=Zj lo g (T++xP uG 0 n k) (some ⟨ba,oa+k,none⟩) (c-k) (n.drop k) wr hT ag4 (AO.drop XW.out I k) aA aA aA;rw[List.length_drop]at agH;have hLA:=UA (T:=T) (uG:=uG) aB;have hkc:(k:Int)<=c:=I;have ax2:k<c:=I;cases age:look T (n.drop k)with
   |some q0=>
    have hLI:JM (T++xP uG 0 n k) (n.drop k)=q0:=nY;rw[hLI]at agH;have alZ:=Y (VZ T uG n k q0 aB HN.out age);have asE:q0<16384:=by obtain⟨_,_,_,_,_,_,ag3⟩:=hT;exact(ag3 _ (List.mem_append_left _ (KX age))).2
    clear hLI hLA age;have hq0:(0:Int)<=q0:=I;have agS:=xc n k;have hl:(wX (n.take k)).length<=254:=by rw[wA];omega
    obtain⟨q,hq⟩:∃q,q=wX (n.take k):=gG;rw[<-hq]at hl⊢;have HQ:=Y hq;clear hq;go_wp2_with fail;refine agH.mono ?_;rintro _ w2 ⟨rfl,hB2⟩;have hK2:vV lo w w2:=hBK.trans (vV.y9 hB2 ag4);have ai8:Below lo w w2:=hK2.1;have hT2:=hT.G ag4 hB2;have agv:lo<=w2.heap.size:=wI ai8 uw;clear agH hT hB hB2 hBK;go_wp2_with fail;refine(wZ _ _ _).mono ?_;rw[show hw 2=2 from J];have hpl:=uy 2 (49152+(q0:Int));rintro _ w3 ⟨rfl,hB3⟩;generalize hpp:uA 2 (49152+(q0:Int))=pp at*;have axK:pp.length<=2:=I;clear hpp hpl;go_wp2_with fail;go_ret2;exact Lk (by rw[alZ.out,HQ.out]) (by rw[alZ.out]) (hT2.G agv hB3) (hK2.trans (vV.y9 hB3 agv))
   |none=>
    have hLI:JM (T++xP uG 0 n k) (n.drop k)= -1:=nY;rw[hLI]at agH;have HLO:=Y age;clear hLI hLA age;go_wp2_with fail;refine agH.mono ?_;rintro _ w2 ⟨rfl,hB2⟩;have hK2:vV lo w w2:=hBK.trans (vV.y9 hB2 ag4);have ai8:Below lo w w2:=hK2.1;have agv:lo<=w2.heap.size:=wI ai8 uw;have hT2:=hT.G ag4 hB2;have xw:∀i (hi:i<n.length),w2.cell? ⟨ba,oa+i,none⟩=some (.string (bs n[i])):=fun i hi=>(hB2.cell (show ba<wr.heap.size by omega)).trans (XW.out i hi)
    replace XW:=Y xw;clear agH xw hT hB hB2 hBK;obtain⟨q,hq⟩:∃q,q=wX (n.take k):=gG;rw[<-hq];have hql:q.length=vB (n.take k):=by rw[hq,wA]
    have asC:=xc n k;rw[<-hql]at asC;have HQL:=Y hql;have HQ:=Y hq;clear hq hql;go_upto_region 11 with fail;go_cut[51] (fun b wx=>b= .bool (low uG q.length)/\w2=wx)
    case first=>
     by_cases h0:0<=uG
     ·
      have d0:decide (0<=uG)=true:=decide_eq_true h0;by_cases U:uG<16384
      ·
       have d1:decide (uG<16384)=true:=ly;by_cases X:uG+q.length<16384
       ·have hl:low uG q.length=true:=(Bi _ _).2 ⟨h0,U,X⟩;have HLW:=Y hl;clear hl;exact qG
       ·
        have hl:low uG q.length=false:=by
         cases hh:low uG q.length with
         |false=>rfl
         |true=>exact absurd ((Bi _ _).1 hh).2.2 X
        have HLW:=Y hl;clear hl;exact qG
      ·
       have d1:decide (uG<16384)=false:=kW;have hl:low uG q.length=false:=by
        cases hh:low uG q.length with
        |false=>rfl
        |true=>exact absurd ((Bi _ _).1 hh).2.1 U
       have HLW:=Y hl;clear hl;by_cases X:wrap64 (uG+q.length)<16384
       ·have d2:decide (wrap64 (uG+q.length)<16384)=true:=decide_eq_true X;exact qG
       ·have d2:decide (wrap64 (uG+q.length)<16384)=false:=decide_eq_false X;exact qG
     ·
      have d0:decide (0<=uG)=false:=oU;have hl:low uG q.length=false:=by
       cases hh:low uG q.length with
       |false=>rfl
       |true=>exact absurd ((Bi _ _).1 hh).1 h0
      have HLW:=Y hl;clear hl;exact qG
    case rest=>
     obtain⟨rfl,rfl⟩:=hcut;have hRS:xP uG 0 n (k+1)=xP uG 0 n k++(if low uG q.length then[(n.drop k,(uG+(q.length:Nat)).toNat)]else[]):=by rw[zH,<-HQL.out,Nat.zero_add]
     have HRS:=Y hRS;clear hRS;go_upto_if 51 with fail;go_cut[] (fun wx=>GM lo wx g (T++xP uG 0 n (k+1))/\vV lo w wx)
     case first=>
      cases hl:low uG q.length with
      |false=>
       rw[hl,if_neg ap,List.append_nil]at HRS;clear hl;go_wp2_with fail;go_meet
       case rel=>exact⟨by rw[HRS.out];exact hT2,hK2⟩
      |true=>
       obtain⟨l0,l1,l2⟩:=(Bi _ _).1 hl;rw[hl,if_pos J]at HRS;clear hl;obtain⟨x,hx⟩:∃x:Nat,x=(uG+(q.length:Nat)).toNat:=gG;rw[<-hx]at HRS;have hxi:uG+(q.length:Int)=x:=I;have axt:x<16384:=I;have HXI:=Y hxi;clear hx hxi;obtain⟨vs,v,hvl,Z,adU,htx,ag3⟩:=hT2;obtain⟨Av,cv,hv⟩:=ya adU;rw[hv]at Z adU;clear hv;have HTX:=Y htx;have aix:=Y ag3;have HVL:=Y hvl;clear htx ag3 hvl;have tc:=Z.M 0 J;have hbl:=Z.lt;have hw1:IntKind.i64.wrap (uG+(q.length:Int))=uG+(q.length:Int):=jk;obtain⟨i0,hi0,hz0,hz1,hz2⟩:=info_parts abO;have ayI:(T++xP uG 0 n k).length<=900254:=aA;have hck:¬c=k:=I;obtain⟨T1,hT1⟩:∃T1,T1=T++xP uG 0 n k:=gG;rw[<-hT1]at Z adU tc ayI HTX aix HVL;have HT1:=Y hT1;clear hT1;go_wp2_with fail;go_region_law(refine step_append_lies _ J (.tmp 56) (.tmp 65) _ aO lo 273 i0 _ 2 32 underlying206 hi0 hz0 hz1 hz2 J az _ T1.length _ aO (World.ownsRow.alloc adU _) ⟨w2.heap.size,0,none⟩ 1 1 [.slice (some ⟨ba,oa+k,none⟩) (n.length-k) (c-k),.int .i64 (uG+(q.length:Int))] aO aO (World.news_of_block (heap_alloc_new _ _)) aP I aK I aA (w2.heap.size+1) ap ?_;intro gg cap w3 agO agJ hat axW;have U:=wh (F.drew (F.alloc Z _)) (World.ownsRow.alloc adU _) az agJ;have k3:=U.M 0 J;have kf:=U.frozen 0;clear tc);all_goals
        rw[HXI.out]at agO;have hsl:=GL.drop (lo:=lo) (c:=c-k) XW.out hba k;rw[List.length_drop]at hsl;obtain⟨R1,R2⟩:=Zl HVL.out Z adU HTX.out aix.out agv hgl agO agJ hsl aA axt;have hT5:T++xP uG 0 n (k+1)=T1++[(n.drop k,x)]:=by rw[HRS.out,HT1.out,List.append_assoc]
        have HT5:=Y hT5;clear hT5;go_wp2_with fail;go_meet
        case rel=>exact⟨by rw[HT5.out];exact R1,hK2.trans R2⟩
     case rest=>
      clear hT2 ai8 agv HRS hK2;obtain⟨hT3,hK3⟩:=hcut;have hB3:=hK3.1;have ain:lo<=wc.heap.size:=wI hB3 uw;have atj:ba<wc.heap.size:=I;have hL0:=hA;obtain⟨A0,c0,hv0,hA0⟩:=hL0;injection hv0 with e1 _ e3;subst e1 e3;obtain⟨b5,o5,e5,_,xa⟩:=hA0 I;injection e5 with e5;injection e5 with e5 e6;subst e5 e6;have ag5:wc.cell? ⟨ba,oa+k,none⟩=some (.string (bs n[k])):=(hB3.cell hba).trans (xa k aB);clear hA0 xa;have ET:=Y (I5 n k aB);have aiE:=xc n (k+1);rw[DH n k aB,<-HQL.out]at aiE;have asT:=(GG.out n[k] (List.getElem_mem aB)).2;have hp1:=adi n[k].length I;have al9:∀W:World,(Op.stringOp .add (bs q) (bs [UInt8.ofNat n[k].length])).run prog W= .ok (.string (bs (q++[UInt8.ofNat n[k].length]))) W:=mh;have al8:∀W:World,(Op.stringOp .add (bs (q++[UInt8.ofNat n[k].length])) (bs n[k])).run prog W= .ok (.string (bs (q++[UInt8.ofNat n[k].length]++n[k]))) W:=mg;have HP1:=Y hp1;clear hp1;have hcl:∀W,al wc W->W.cell? ⟨ba,oa+k,none⟩=some (.string (bs n[k])):=oy;have HCL:=Y hcl;clear hcl;go_wp2_with fail;go_region_held3(fun w'=>al wc w'/\w'.cell? ⟨ba,oa+k,none⟩=some (.string (bs n[k]))) ((refine both ?_ (HCL.out _);first|exact(Below.refl _ _).drew|exact IY (And.left ‹al wc _/\_›) b3))
       ((go_at_call 84;refine(wZ _ _ _).mono ?_;rw[show hw 1=1 from J,HP1.out];rintro e w3 ⟨rfl,b3⟩))
      have bR:=And.left ‹al wc _/\_›;clear al9 al8 HCL;clear ‹al wc _/\_›;go_wp2_with fail;go_roundw
      case rel=>
       refine⟨k+1,I,gp,?_,Y (fun j hj=>by
        by_cases e:j=k
        ·subst e;exact HLO.out
        ·
         exact HN.out j I),hT3.G ain bR,hK3.trans (vV.y9 bR ain)⟩
       rw[ET.out,HQ.out];simp
      case measure=>simp[intOf];omega
  ·obtain rfl:k=n.length:=I;have h1:¬(n.length:Int)<n.length:=I;have akv:=Y (RH T uG n HN.out);rw[List.take_of_length_le (Nat.le_refl _)];have hl:(wX n).length<=254:=jt;obtain⟨q,hq⟩:∃q,q=wX n:=gG;rw[<-hq]at hl⊢;have HQ:=Y hq;clear hq;go_wp2_with fail;refine(wZ _ _ _).mono ?_;rw[show hw 1=1 from J,Zm];rintro _ w3 ⟨rfl,hB3⟩;go_wp2_with fail;go_ret2;exact Lk (by rw[akv.out,HQ.out]) (by rw[akv.out]) (hT.G ag4 hB3) (hBK.trans (vV.y9 hB3 ag4))
theorem UD(A:Option Addr)(c:Nat)(n:List (List UInt8))(uG:Int)(w:World)(hA:AO w A n)(agT:n.length<=c)(hc:uE n=0):
  Calls prog 112 #[.pointer none,.slice A n.length c,.int .i64 uG] w (uI (.tuple #[.string (bs (Py n)),.int .i64 0]) w):=by
 obtain⟨hg,hs⟩:=xj hc;have hs':vB n<=254:=I;have hnl:n.length<=254:=lX;have C:=vD A c n w hA I;rw[hc]at C;have GG:=Y (show yR n from hg);clear hc hg;go_enter func112,ntmps112;go_wp2_with fail;refine C.mono ?_;rintro _ w1 ⟨rfl,rfl⟩;go_wp2_with fail;go_loopw[9,10] (fun s i wr=>∃k:Nat,k<=n.length/\i= .int .i64 k/\s= .string (bs (wX (n.take k)))/\al w wr) (fun _ i _=>n.length-(intOf i).toNat)
 case atStart=>exact⟨0,Nat.zero_le _,J,J,Below.refl _ _⟩
 case round=>
  clear C;obtain⟨k,z,rfl,rfl,hB⟩:=hrel;by_cases aB:k<n.length
  ·
   have h1:(k:Int)<n.length:=I;obtain⟨ba,oa,rfl,hba,xa⟩:=hA I;have ag5:=(hB.cell hba).trans (xa k aB);have hkc:(k:Int)<=c:=I;have ax2:k<c:=I;have agH:=Zk (some ⟨ba,oa+k,none⟩) (c-k) (n.drop k) wr;rw[List.length_drop]at agH;have ET:=Y (I5 n k aB);have aiE:=xc n (k+1);rw[DH n k aB]at aiE;have asT:=(GG.out n[k] (List.getElem_mem aB)).2;obtain⟨q,hq⟩:∃q,q=wX (n.take k):=gG;rw[<-hq];have hql:q.length=vB (n.take k):=by rw[hq,wA]
   rw[<-hql]at aiE;have HQ:=Y hq;clear hq hql xa;go_wp2_with fail;refine agH.mono ?_;rintro _ w2 ⟨rfl,rfl⟩;clear agH;have hp1:=adi n[k].length I;have al9:∀W:World,(Op.stringOp .add (bs q) (bs [UInt8.ofNat n[k].length])).run prog W= .ok (.string (bs (q++[UInt8.ofNat n[k].length]))) W:=mh;have al8:∀W:World,(Op.stringOp .add (bs (q++[UInt8.ofNat n[k].length])) (bs n[k])).run prog W= .ok (.string (bs (q++[UInt8.ofNat n[k].length]++n[k]))) W:=mg;have HP1:=Y hp1;clear hp1;have atj:ba<wr.heap.size:=Nat.lt_of_lt_of_le hba hB.size;have hcl:∀W,al wr W->W.cell? ⟨ba,oa+k,none⟩=some (.string (bs n[k])):=oy;have HCL:=Y hcl;clear hcl;go_wp2_with fail;go_region_held3(fun w'=>al wr w'/\w'.cell? ⟨ba,oa+k,none⟩=some (.string (bs n[k]))) ((refine both ?_ (HCL.out _);first|exact(Below.refl _ _).drew|exact IY (And.left ‹al wr _/\_›) b3))
    ((go_at_call 84;refine(wZ _ _ _).mono ?_;rw[show hw 1=1 from J,HP1.out];rintro e w3 ⟨rfl,b3⟩))
   have bR:=And.left ‹al wr _/\_›;clear al9 al8 HCL;clear ‹al wr _/\_›;go_wp2_with fail;go_roundw
   case rel=>refine⟨k+1,I,gp,?_,um hB hB.size bR⟩;rw[ET.out,HQ.out];simp
   case measure=>simp[intOf];omega
  ·obtain rfl:k=n.length:=I;have h1:¬(n.length:Int)<n.length:=I;rw[List.take_of_length_le (Nat.le_refl _)];have hl:(wX n).length<=254:=jt;obtain⟨q,hq⟩:∃q,q=wX n:=gG;rw[<-hq]at hl⊢;have HQ:=Y hq;clear hq;go_wp2_with fail;refine(wZ _ _ _).mono ?_;rw[show hw 1=1 from J,Zm];rintro _ w3 ⟨rfl,hB3⟩;go_wp2_with fail;go_ret2;exact uI.mk (Ln (by rw[HQ.out];rfl)) (um hB hB.size hB3)
end Go.Proofs.YthnbcmlnpdabhaaGreat
