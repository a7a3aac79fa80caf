/-
  Layer 12 (packed):octets,New;tables as maps.
-/
import Derived.Test.YtakkipnmpmobbaaGreatGBq
import Derived.Maps.OwnSet
import Derived.Deep.CutBlock
namespace Go.Proofs.YtakkipnmpmobbaaGreat
open _root_.Go.Proofs.Tryz
set_option maxHeartbeats 8000000
open Go.RowKit
set_option maxRecDepth 100000
set_option linter.unusedVariables false
variable {w w':World} {b n g x:Nat} {s:List UInt8}
theorem yz{Hh:Nat}{v:Value}{q:List UInt8}(h:w.ownsRow Hh 5 1 v q.length (sN q)):(convert 101 9 v).run prog w= .ok (.string (bs q)) w:=by
 rcases h.2 with⟨rfl,h0⟩|⟨g,cap,cur,rfl,_⟩
 ·
  have:q=[]:=List.length_eq_zero_iff.1 h0;subst this;have:(convert 101 9 (.slice none 0 0)).run prog w= .ok (.string ⟨#[]⟩) w:=by kernel_rfl
  exact this
 ·refine run_convert_bytes_back w 101 9 5 ⟨g,0,none⟩ cap q underlying101 underlying5 underlying9 ?_;intro j hj;exact h.cells (g:=g) I j _ (zW q j hj)
def Ku(n:List (List UInt8))(k:Nat):List Nat:=(List.range k).map fun j=>sq (n.take j)
theorem Wq(n:List (List UInt8))(k:Nat):Ku n (k+1)=Ku n k++[sq (n.take k)]:=by simp[Ku,List.range_succ]
def ints(l:List Nat):List Value:=l.map fun(x:Nat)=>Value.int .i64 (x:Int)
theorem YX(a b:List Nat):ints (a++b)=ints a++ints b:=by simp[ints]
theorem Vf:(prog.info? 3).map (fun i=>(i.zero,i.size,i.bytes))=some (some (.int .i64 0),1,8):=by kernel_rfl
theorem Ws(n:List (List UInt8))(k:Nat)(h:k<n.length):uI (n.take (k+1))=uI (n.take k)++[UInt8.ofNat n[k].length]++n[k]:=by
 rw[List.take_succ_eq_append_getElem h,Ix];simp[uI,xE]
def ab9(n:List (List UInt8))(w:World)(e:Ending)(w':World):Prop:=
 ∃v,e= .returned (.tuple #[.string (bs (uI n)),v])/\w'.ownsRow w.heap.size 3 1 v n.length (ints (Ku n n.length))/\ao w w'
theorem IL(A:Option Addr)(c:Nat)(n:List (List UInt8))(w:World)(hA:zN w A n)(hg:wJ n)(hs:sq n<=254):
  Calls prog 164 #[.slice A n.length c] w (ab9 n w):=by
 have hnl:n.length<=254:=Nat.le_trans (yV n) hs;obtain⟨i0,hi0,hz0,hz1,hz2⟩:=info_parts Vf;go_enter func164,ntmps164;go_wp2_with(at_make;go_must(refine wpList_make_own _ I (.const (.int .i64 0)) (.tmp 9) 56 I w.heap.size 3 i0 (.int .i64 0) 1 underlying56 hi0 hz0 hz1 .i64 .i64 _ n.length I I I (by rw[hz2];omega) aL (Nat.le_refl _) ?_));intro B alK anD;have hB1:ao w B:=(Below.refl _ w).grown anD (Nat.le_refl _) (by intro k O;cases O);clear anD;go_wp2_with fail;go_loopw[4,5,13] (fun b bg i wr=>∃k:Nat,k<=n.length/\i= .int .i64 k/\wr.ownsRow w.heap.size 5 1 b (uI (n.take k)).length (sN (uI (n.take k)))/\wr.ownsRow w.heap.size 3 1 bg k (ints (Ku n k))/\ao w wr) (fun _ _ i _=>n.length-(intOf i).toNat)
 case atStart=>exact⟨0,Nat.zero_le _,I,World.ownsRow_nil _ _ _ _,alK,hB1⟩
 case round=>
  clear alK hB1;clear B;obtain⟨k,O,rfl,Z,hbg,hB⟩:=hrel;obtain⟨Ab,cb,hv⟩:=tp Z;obtain⟨Ag,cg,hv2⟩:=tp hbg;rw[tP]at Z hv;have hle:=vK n k;by_cases aA:k<n.length
  ·
   have h1:(k:Int)<n.length:=Y;obtain⟨ba,oa,rfl,hba,xa⟩:=hA Y;have c1:=(hB.cell hba).trans (xa k aA);have XK:=J (xa k aA);have ET:=J (Ws n k aA);have alj:=vK n (k+1);rw[Fw n k aA]at alj;have avb:=(hg n[k] (List.getElem_mem aA)).2;clear xa;rw[hv,hv2];rw[hv]at Z;rw[hv2]at hbg;clear hv hv2;go_wp2_with(at_builtin;go_must(refine tQ _ I (.tmp 17) (.tmp 20) 56 I 3 (.int .i64 0) 1 8 underlying56 Vf I K w.heap.size _ k _ I (World.ownsRow.alloc hbg _) aS ⟨wr.heap.size,0,none⟩ 1 1 [.int .i64 (sq (n.take k))] I I (vJ _ _ _ _ I) (uA I) K aL Y ?_));intro g2 ahd w2 ajf afp ahg;have hb2:=zD (Z.alloc _) (hbg.alloc _) K afp;have hB2:=sX (hB.alloc hB.size _) aS (hbg.alloc _) afp;have aqu:w2.ownsRow w.heap.size 3 1 (.slice (some ⟨g2,0,none⟩) (k+1) ahd) (k+1) (ints (Ku n (k+1))):=by rw[Wq,YX];exact ajf
   clear Z hbg ajf afp hB c1;go_wp2_with(at_builtin;go_must(refine tQ _ I (.tmp 22) (.tmp 26) 101 I 5 (.int .u8 0) 1 1 underlying101 xf I K w.heap.size _ (sq (n.take k)) _ I (World.ownsRow.alloc hb2 _) aT ⟨w2.heap.size,0,none⟩ 1 1 [.int .u8 (n[k].length:Int)] I I (vJ _ _ _ _ I) (uA I) K aL Y ?_));intro g3 aCD w3 hb3 arA aBa;have avu:=zD (aqu.alloc _) (hb2.alloc _) K arA;have hB3:=sX (hB2.alloc hB2.size _) aT (hb2.alloc _) arA;obtain⟨q,hq⟩:∃q,q=uI (n.take k)++[UInt8.ofNat n[k].length]:=gh;have hql:q.length=sq (n.take k)+1:=by rw[hq,List.length_append,tP];rfl
   have apo:w3.ownsRow w.heap.size 5 1 (.slice (some ⟨g3,0,none⟩) (sq (n.take k)+1) aCD) q.length (sN q):=by
    rw[hql,hq,xL];have:sN [UInt8.ofNat n[k].length]=[.int .u8 (n[k].length:Int)]:=by simp[sN];omega
    rw[this];exact hb3
   have HQ:=J hq;have aK1:q.length+n[k].length<=1000:=Y;have HQL:=J hql;clear hb2 aqu hB2 arA hb3 hq hql;go_wp2_with(at_builtin;go_must(refine Pv _ I (.tmp 28) (.tmp 29) I w.heap.size _ q n[k] I apo hB3.size I Y ?_));intro A4 c4 w4 hb4 arz;have avt:=zD avu apo K arz;have hB4:=sX hB3 hB3.size apo arz;have hE:q++n[k]=uI (n.take (k+1)):=by rw[ET.out,HQ.out]
   rw[hE]at hb4;have HE:=J (show(uI (n.take (k+1))).length=q.length+n[k].length by rw[<-hE,List.length_append]);clear hE apo avu hB3 arz;go_wp2_with fail;go_roundw
   case rel=>exact⟨k+1,Y,fQ,by rw[HE.out];exact hb4,avt,hB4⟩
   case measure=>simp[intOf];omega
  ·have h1:¬(k:Int)<n.length:=Y;obtain rfl:k=n.length:=Y;have ht:n.take n.length=n:=ju;rw[ht]at Z hv;rw[hv,hv2];rw[hv]at Z;rw[hv2]at hbg;rw[<-tP]at Z;have hcv:=yz Z;rw[tP]at hcv;clear hv hv2 ht Z;go_wp2_with fail;go_ret2;exact⟨_,I,hbg,hB⟩
open Go.RowKit Go.Maps
theorem PU:Keyed prog 9:=string_keyed underlying9
theorem Vg(w:World):(zeroValue 3).run prog w= .ok (.int .i64 0) w:=by kernel_rfl
def xO(w:World)(b n:Nat)(f:List UInt8->Option Nat):Prop:=
 ∃D:DataW Unit,w.ownsMap prog 9 (plainElem prog 3) b n D/\∀k,match f k with
  |none=>Maps.has D (.string k)=false
  |some x=>Maps.has D (.string k)=true/\∀z,D.atKey (.string k) z= .lit (.int .i64 (x:Int))
theorem YY(k:List UInt8)(O:k.length<=maxLen):keyOf prog 9 (.string (bs k))=some (Lit.string k):=by
 have:=WideMaps.keyOf_string_mk underlying9 (s:=bs k) (by rw[vB];exact O);rwa[abZ]at this
theorem xO.made(w:World):xO (w.alloc (.map #[] 0)) w.heap.size 0 (fun _=>none):=⟨.map [],World.ownsMap_made _ _ _ _,fun k=>rfl⟩
theorem xO.look{f:List UInt8->Option Nat}(h:xO w b n f)(k:List UInt8)(O:k.length<=maxLen):
  (Instr.lookup 230 (.map (some b)) (.string (bs k)) true).run prog w= .ok (.tuple #[.int .i64 ((f k).getD 0:Nat),.bool (f k).isSome]) w:=by
 obtain⟨D,ho,hf⟩:=h;obtain⟨v,ps,ai9,hv⟩:=ho.look_ok PU underlying230 (Vg w) (plainElem_int underlying3 (a:=0) K) (YY k O);obtain⟨a,rfl,ha,_⟩:=plainElem_int_inv underlying3 hv;have hfk:=hf k;rw[ai9];cases O:f k with
 |none=>rw[O]at hfk;simp only at hfk;rw[Maps.atKey_of_not_has hfk]at ha;have:a=0:=kB;subst this;rw[hfk];rfl
 |some x=>rw[O]at hfk;simp only at hfk;rw[hfk.2]at ha;have:a=(x:Int):=kB;subst this;rw[hfk.1];rfl
theorem xO.store{f:List UInt8->Option Nat}(h:xO w b n f)(k:List UInt8)(O:k.length<=maxLen)(x:Nat)(hx:x<16384)(hn:n<maxLen):
  ∃w',(Instr.mapUpdate 230 (.map (some b)) (.string (bs k)) (.int .i64 (x:Int))).run prog w= .ok () w'/\xO w' b (n+1) (fun j=>if j=k then some x else f j)/\w.grownBy w' (some b):=by
 obtain⟨D,ho,hf⟩:=h;obtain⟨w',ai9,ho',hg⟩:=ho.update PU underlying230 hn (YY k O) (plainElem_int underlying3 (a:=(x:Int)) (WalkArith.wf_i64 Y));refine⟨w',ai9,⟨_,ho',fun j=>?_⟩,hg⟩;by_cases hj:j=k
 ·subst hj;simp only[if_true];exact⟨Maps.has_put_same ho.isMap (show WideAt.IsKeyLit (Lit.string j)from trivial) _,fun z=>Maps.atKey_put_same ho.isMap (show WideAt.IsKeyLit (Lit.string j)from trivial) _ _⟩
 ·
  simp only[if_neg hj];have hl:Lit.string j≠Lit.string k:=fun e=>hj (by injection e)
  have:=hf j;cases hfj:f j with
  |none=>rw[hfj]at this;simp only at this⊢;rw[Maps.has_put_other hl];exact this
  |some y=>rw[hfj]at this;simp only at this⊢;exact⟨by rw[Maps.has_put_other hl];exact this.1,fun z=>by rw[Maps.atKey_put_other hl];exact this.2 z⟩
theorem xO.kept{f:List UInt8->Option Nat}{row:Option Nat}(h:xO w b n f)(hg:w.grownBy w' row)(hl:some b≠row):xO w' b n f:=by
 exact qS
theorem xO.lt{f:List UInt8->Option Nat}(h:xO w b n f):b<w.heap.size:=by
 obtain⟨D,ho,hf⟩:=h;exact ho.lt
theorem xO.Co{f:List UInt8->Option Nat}{t:TypeId}{cs:List Value}(h:xO w b n f)(Z:N w g t cs):b≠g:=by
 exact pQ
def yS(w:World)(g b:Nat)(T:List (List (List UInt8)×Nat)):Prop:=
 N w g 232 [.map (some b)]/\(∃f,xO w b T.length f/\∀n,wJ n->f (uI n)=look T n)/\∀r∈T,r.2<16384
def aey(w:World)(e:Ending)(w':World):Prop:=∃g b,e= .returned (.pointer (some ⟨g,0,none⟩))/\yS w' g b []/\ao w w'/\w.heap.size<=g/\w.heap.size<=b
theorem YZ(w:World):Calls prog 122 #[] w (aey w):=by
 have hmm:= @run_makeMap prog;go_enter func122,ntmps122;go_wp2;go_ret;refine⟨_,w.heap.size,I,⟨N.uE _ _ [.map (some w.heap.size)] _ ar,⟨fun _=>none,(xO.made w).kept (World.grownBy_alloc _ _ none) ar,fun n _=>rfl⟩,ar⟩,((Below.refl _ _).alloc (Nat.le_refl _) _).alloc ar _,ar,Nat.le_refl _⟩
def xg(rU:Int)(p:Nat)(n:List (List UInt8))(k:Nat):List (List (List UInt8)×Nat):=
 (List.range k).flatMap fun j=>if low rU (p+sq (n.take j))then[(n.drop j,(rU+(p+sq (n.take j):Nat)).toNat)]else[]
theorem yk(rU:Int)(p:Nat)(n:List (List UInt8))(k:Nat):xg rU p n (k+1)=xg rU p n k++(if low rU (p+sq (n.take k))then[(n.drop k,(rU+(p+sq (n.take k):Nat)).toNat)]else[]):=by
 simp[xg,List.range_succ,List.flatMap_append]
theorem Tk(rU:Int)(p:Nat)(n:List (List UInt8))(k:Nat)(h:rU<0\/16384<=rU):xg rU p n k=[]:=by
 have E:∀q,low rU q=false:=by
  intro q;cases hq:low rU q with
  |false=>rfl
  |true=>have:=(Ep rU q).1 hq;omega
 induction k with
 |zero=>rfl
 |succ k ih=>rw[yk,ih,E];rfl
theorem ND(rU:Int)(p:Nat)(n:List (List UInt8))(k:Nat):(xg rU p n k).length<=k:=by
 induction k with
 |zero=>exact Nat.le_refl _
 |succ k ih=>
  rw[yk,List.length_append];split
  ·simp;omega
  ·simp;omega
theorem Wt{rU:Int}{p:Nat}{n:List (List UInt8)}{k:Nat}{r:List (List UInt8)×Nat}(h:r∈xg rU p n k):∃j,j<k/\r.1=n.drop j/\r.2<16384:=by
 induction k with
 |zero=>cases h
 |succ k ih=>
  rw[yk]at h;rcases List.mem_append.1 h with h|h
  ·obtain⟨j,hj,U,F⟩:=ih h;exact⟨j,Y,U,F⟩
  ·
   by_cases hc:low rU (p+sq (n.take k))=true
   ·rw[if_pos hc,List.mem_singleton]at h;have E:=(Ep _ _).1 hc;refine⟨k,Y,by rw[h],?_⟩;rw[h];simp only;omega
   ·rw[if_neg hc]at h;cases h
theorem Lh(T:List (List (List UInt8)×Nat))(rU:Int)(pre:List UInt8)(n:List (List UInt8)):∀k,k<=n.length->(∀j,j<k->look T (n.drop j)=none)->
  DH T rU pre n=((DH T rU (pre++uI (n.take k)) (n.drop k)).1,xg rU pre.length n k++(DH T rU (pre++uI (n.take k)) (n.drop k)).2):=by
 intro k;induction k with
 |zero=>intro _ _;simp[xg]
 |succ k ih=>
  intro O h;rw[ih Y (fun j hj=>h j Y)];have hd:n.drop k=n[k]::n.drop (k+1):=List.drop_eq_getElem_cons Y;have E:=h k Y;rw[hd]at E;rw[hd,Iz E];have e1:pre++uI (n.take k)++xE n[k]=pre++uI (n.take (k+1)):=by rw[List.take_succ_eq_append_getElem Y,Ix,List.append_assoc];simp[uI]
  have e2:(pre++uI (n.take k)).length=pre.length+sq (n.take k):=by rw[List.length_append,tP]
  rw[e1,e2,yk,hd,List.append_assoc]
theorem aca(T:List (List (List UInt8)×Nat))(rU:Int)(n:List (List UInt8))(k q:Nat)(O:k<n.length)(h:∀j,j<k->look T (n.drop j)=none)(hq:look T (n.drop k)=some q):
  DH T rU [] n=(uI (n.take k)++rP 2 (49152+q),xg rU 0 n k):=by
 rw[Lh T rU [] n k Y h];have hd:n.drop k=n[k]::n.drop (k+1):=List.drop_eq_getElem_cons O;rw[hd]at hq⊢;rw[Es hq];simp
theorem Y6(T:List (List (List UInt8)×Nat))(rU:Int)(n:List (List UInt8))(h:∀j,j<n.length->look T (n.drop j)=none):
  DH T rU [] n=(uI n++[0],xg rU 0 n n.length):=by
 rw[Lh T rU [] n n.length (Nat.le_refl _) h];simp[DH]
theorem Wu{T:List (List (List UInt8)×Nat)}{n:List (List UInt8)}(h:look T n=none)(m:List (List UInt8)):look (T++[(n,x)]) m=if m=n then some x else look T m:=by
 by_cases hm:m=n
 ·subst hm;rw[if_pos I];unfold look at h⊢;rw[List.find?_append];have:T.find? (fun r=>r.1==m)=none:=aw;rw[this];simp
 ·rw[if_neg hm,DI];intro r hr;rw[List.mem_singleton]at hr;subst hr;exact fun e=>hm e.symm
theorem Wv{T:List (List (List UInt8)×Nat)}{rU:Int}{n:List (List UInt8)}{k:Nat}(O:k<n.length)(h:look T (n.drop k)=none):look (T++xg rU 0 n k) (n.drop k)=none:=by
 rw[DI]
 ·exact h
 ·intro r hr e;obtain⟨j,hj,U,_⟩:=Wt hr;have:=congrArg List.length (U.symm.trans e);simp at this;omega
theorem Li(n:List (List UInt8))(k:Nat):(uI n).drop (sq (n.take k))=uI (n.drop k):=by
 have e:uI n=uI (n.take k)++uI (n.drop k):=ku;rw[e,<-tP,List.drop_left]
theorem Tl(n:List (List UInt8))(k:Nat):(uI n).take (sq (n.take k))=uI (n.take k):=by
 have e:uI n=uI (n.take k)++uI (n.drop k):=ku;rw[e,<-tP,List.take_left]
def Kv(T:List (List (List UInt8)×Nat))(rU:Int)(n:List (List UInt8)):List UInt8:=if rR n=0 then(DH T rU [] n).1 else[]
def NF(T:List (List (List UInt8)×Nat))(rU:Int)(n:List (List UInt8)):List (List (List UInt8)×Nat):=if rR n=0 then T++(DH T rU [] n).2 else T
theorem Vh(p:Option Addr)(A:Option Addr)(c:Nat)(n:List (List UInt8))(rU:Int)(w:World)(hA:zN w A n)(hm:n.length<=281474976710656)(hc:rR n≠0):
  Calls prog 155 #[.pointer p,.slice A n.length c,.int .i64 rU] w (uQ (.tuple #[.string (bs []),.int .i64 (rR n)]) w):=by
 have C:=wK A c n w hA hm;generalize rR n=e at*;have hc':(e !=0)=true:=iI;go_enter func155,ntmps155;go_wp2_with fail;refine C.mono ?_;rintro _ B ⟨rfl,rfl⟩;go_wp2_with fail;go_ret2;exact uQ.mk I I
def PV(n:List (List UInt8)):List UInt8:=uI n++[0]
theorem acb(A:Option Addr)(c:Nat)(n:List (List UInt8))(rU:Int)(w:World)(hA:zN w A n)(hm:n.length<=281474976710656)(hc:rR n=0):
  Calls prog 155 #[.pointer none,.slice A n.length c,.int .i64 rU] w (rW (.tuple #[.string (bs (PV n)),.int .i64 0]) w):=by
 have C:=wK A c n w hA hm;obtain⟨hg,hs⟩:=ud hc;have hs':sq n<=254:=Y;have agB:=IL A c n w hA hg hs';rw[hc]at C;have E:(uI n).length<=254:=lU;clear hc hg;unfold PV;go_enter func155,ntmps155;go_wp2_with fail;refine C.mono ?_;rintro _ B ⟨rfl,rfl⟩;go_wp2_with fail;refine agB.mono ?_;rintro _ B ⟨v,rfl,ho,hB⟩;generalize uI n=q at*;go_wp2_with fail;go_ret2;exact rW.mk I hB
def Y7(g b:Nat)(s:List UInt8)(T:List (List (List UInt8)×Nat))(w:World)(e:Ending)(w':World):Prop:=
 e= .returned (.tuple #[.string (bs s),.int .i64 0])/\yS w' g b T/\w.grownBy w' (some b)
def Y8(g b:Nat)(T:List (List (List UInt8)×Nat))(n:List (List UInt8))(rU:Int)(w:World)(bg out:Value)(wx:World):Prop:=
 ∃(k c:Nat) (A:Option Addr),k<=n.length/\bg= .slice A k c/\out= .string (bs (DH T rU [] n).1)/\(DH T rU [] n).2=xg rU 0 n k/\(∀j,j<k->look T (n.drop j)=none)/\
  (∀i,i<k->∃Hh,A=some ⟨Hh,0,none⟩/\w.heap.size<=Hh/\Hh<wx.heap.size/\wx.cell? ⟨Hh,i,none⟩=some (.int .i64 (sq (n.take i))))/\yS wx g b T/\ao w wx
theorem yS.G{T:List (List (List UInt8)×Nat)}(h:yS w g b T)(Z:ao w w'):yS w' g b T:=by
 obtain⟨U,⟨f,F,h3⟩,h4⟩:=h;exact⟨U.G Z U.lt,⟨f,F.kept (r5 Z none) ar,h3⟩,h4⟩
theorem Lj{out:List UInt8}{T T':List (List (List UInt8)×Nat)}(ho:out=s)(hT:T=T')(h:yS w' g b T)(hg:w.grownBy w' (some b)):Y7 g b s T' w (.returned (.tuple #[.string (bs out),.int .i64 0])) w':=by
 subst ho hT;exact⟨I,h,hg⟩
theorem Lk{k c1:Nat}{T:List (List (List UInt8)×Nat)}{n:List (List UInt8)}{rU:Int}{B wx:World}{A1:Option Addr}(O:k<=n.length)(hp:DH T rU [] n=(s,xg rU 0 n k))
  (HN:Hid (∀j,j<k->look T (n.drop j)=none)) (ho:B.ownsRow w.heap.size 3 1 (.slice A1 n.length c1) n.length (ints (Ku n n.length))) (hT:yS B g b T) (hB:ao w B) (hx:ao B wx):
  Y8 g b T n rU w (.slice A1 k c1) (.string (bs s)) wx:=by
 refine⟨k,c1,A1,O,I,by rw[hp],by rw[hp],HN.out,?_,hT.G hx,rC hB hB.size hx⟩;intro i hi;rcases ho.2 with⟨_,h0⟩|⟨Hh,cap,cur,hv,hBb,hh,_⟩
 ·omega
 ·injection hv with U F h3;subst U h3;have aA:Hh<B.heap.size:=(ho.lt Hh I).2;refine⟨Hh,I,hBb,Nat.lt_of_lt_of_le aA hx.size,(hx.cell aA).trans ?_⟩;rw[ho.cellAt i Y];simp[ints,Ku,show i<n.length by omega]
theorem acd{wr:World}{T:List (List (List UInt8)×Nat)}{n:List (List UInt8)}{f:List UInt8->Option Nat}{key:List UInt8}(hTb:N wr g 232 [.map (some b)])(hl:b≠g)
  (hM:xO w' b (T.length+1) (fun k=>if k=key then some x else f k)) (hf:∀m,wJ m->f (uI m)=look T m) (ali:∀r∈T,r.2<16384) (avc:key=uI n) (hn:wJ n) (E:look T n=none) (hx:x<16384) (hg:wr.drew.grownBy w' (some b)):
  yS w' g b (T++[(n,x)]):=by
 refine⟨(N.drew hTb).grown hg (fun e=>hl (by injection e with e;exact e.symm)),⟨_,by simpa using hM,fun m hm=>?_⟩,?_⟩
 ·
  rw[Wu E m];by_cases e:m=n
  ·subst e;rw[if_pos I,if_pos avc.symm]
  ·rw[if_neg e,if_neg (fun h=>e (YH m n hm hn (h.trans avc)))];exact hf m hm
 ·
  intro r hr;rcases List.mem_append.1 hr with h|h
  ·exact ali r h
  ·rw[List.mem_singleton]at h;rw[h];exact hx
theorem ace(g b:Nat)(T:List (List (List UInt8)×Nat))(A:Option Addr)(c:Nat)(n:List (List UInt8))(rU:Int)(w:World)(hT:yS w g b T)(hA:zN w A n)(hm:n.length<=281474976710656)(hc:rR n=0)(hTl:T.length<=1000000):
  Calls prog 155 #[.pointer (some ⟨g,0,none⟩),.slice A n.length c,.int .i64 rU] w (Y7 g b (DH T rU [] n).1 (T++(DH T rU [] n).2) w):=by
 have C:=wK A c n w hA hm;obtain⟨hg,hs⟩:=ud hc;have hs':sq n<=254:=Y;have agB:=IL A c n w hA hg hs';rw[hc]at C;have E:(uI n).length<=254:=lU;have hnl:n.length<=254:=Nat.le_trans (yV n) hs';have GG:=J (show wJ n from hg);clear hc hg;go_enter func155,ntmps155;go_wp2_with fail;refine C.mono ?_;rintro _ B ⟨rfl,rfl⟩;go_wp2_with fail;refine agB.mono ?_;rintro _ B ⟨v,rfl,ho,hB⟩;have hT1:=hT.G hB;obtain⟨A1,c1,hv⟩:=tp ho;rw[hv]at ho⊢;clear hv C agB;obtain⟨q,hq⟩:∃q,q=uI n:=gh;rw[<-hq]at E⊢;have HQ:=J hq;clear hq;go_upto_block 0 with fail;go_cut[10,11] (fun bg out wx=>Y8 g b T n rU w bg out wx)
 case first=>
  obtain⟨hTb,⟨f,hM,hf⟩,ali⟩:=hT1;have tc:=hTb.rD 0 I;have HF:=J hf;have amB:=J ali;clear hf ali;go_wp2_with fail;go_loopg [10,11,36] n.length (fun kk bg out i wr=>∃k:Nat,k<=n.length/\kk=n.length-k/\i= .int .i64 k/\bg= .slice A1 n.length c1/\out= .string (bs (q++[0]))/\Hid (∀j,j<k->look T (n.drop j)=none)/\∃d,wr=B.drewN d)
  case atStart=>exact⟨0,Nat.zero_le _,I,I,I,I,J (fun j hj=>by omega),0,I⟩
  case round=>
   obtain⟨k,O,hgk,rfl,rfl,rfl,HN,d,rfl⟩:=hrel;have HGK:=J hgk;clear hgk;by_cases aA:k<n.length
   ·
    have h1:(k:Int)<n.length:=Y;obtain⟨Hh,hA1⟩:∃Hh,A1=some ⟨Hh,0,none⟩:=by
     rcases ho.2 with⟨_,h0⟩|⟨Hh,cap,cur,hv,_⟩
     ·omega
     ·exact⟨Hh,by injection hv⟩
    subst hA1;have afQ:=ho.cellAt k Y;have hbk:(ints (Ku n n.length))[k]?=some (.int .i64 (sq (n.take k):Int)):=by simp[ints,Ku,aA]
    rw[hbk]at afQ;have aru:=vK n k;have hd1:q.drop (sq (n.take k))=uI (n.drop k):=by rw[HQ.out,Li]
    have HD1:=J hd1;clear hd1 hbk;obtain⟨p,hp⟩:∃p,p=sq (n.take k):=gh;rw[<-hp]at afQ HD1 aru;have HP:=J hp;have hpq:(p:Int)<=q.length:=by have e:q.length=sq n:=mg;omega
    clear hp;have alN:∀d',(Instr.lookup 230 (.map (some b)) (.string (bs (q.drop p))) true).run prog (B.drewN d')= .ok (.tuple #[.int .i64 ((f (q.drop p)).getD 0:Nat),.bool (f (q.drop p)).isSome]) (B.drewN d'):=fun d'=>
     (show xO (B.drewN d') b T.length f from hM).look (q.drop p) aU
    have hfk:f (q.drop p)=look T (n.drop k):=by rw[HD1.out];exact HF.out _ (GG.out.drop k)
    cases rH:look T (n.drop k)with
    |none=>
     rw[rH]at hfk;rw[hfk]at alN;simp only[Option.getD_none,Option.isSome_none]at alN;have HLO:=J rH;clear rH hfk;go_wp2_with fail;go_quiet(fail);go_wp2_with fail;go_roundg (n.length-(k+1))
     case measure=>have:=HGK.out;omega
     case rel=>exact⟨k+1,Y,I,fQ,I,I,J (fun j hj=>by
      by_cases e:j=k
      ·subst e;exact HLO.out
      ·
       exact HN.out j Y),_,I⟩
    |some q0=>
     rw[rH]at hfk;rw[hfk]at alN;simp only[Option.getD_some,Option.isSome_some]at alN;have hq0:q0<16384:=amB.out _ (Pt rH);have avf:=aca T rU n k q0 aA HN.out rH;have HH:=J avf;have htk:q.take p=uI (n.take k):=by rw[HQ.out,HP.out,Tl]
     have HTK:=J htk;clear rH hfk avf htk;have aK3:(q0:Int)<16384:=Y;have aii:n.length<=c1:=by
      rcases ho.2 with⟨hv,_⟩|⟨_,_,_,hv,_,_,hh,_⟩
      ·cases hv
      ·injection hv with _ _ h3;omega
     go_wp2_with fail;go_quiet(fail);go_wp2_with fail;have hw1:IntKind.i64.wrap (49152+(q0:Int))=49152+(q0:Int):=kt;obtain⟨W,hW⟩:∃W,W=(B.drewN d).drewN nq:=gh;rw[<-hW];have hBW:ao B W:=hW▸below_drewN (below_drewN (Below.refl _ _) _) _;clear hW;have hpl:=rL 2 (49152+(q0:Int));have ahN:∀W:World,(Op.stringOp .add (bs (q.take p)) (bs (rP 2 (49152+(q0:Int))))).run prog W= .ok (.string (bs (q.take p++rP 2 (49152+(q0:Int))))) W:=fun W=>by rw[run_string_add_sum W _ _ (by simp only[vB,List.length_take];omega),SZ]
     clear hpl;go_region_held3(fun w'=>ao W w') (first|exact(Below.refl _ _).drew|exact Wf aV b3)
      ((go_at_call 136;refine(tK _ _ _).mono ?_;rw[show hw 2=2 from I];rintro e w3 ⟨rfl,b3⟩))
     clear ahN;go_wp2_with fail;go_meet
     case rel=>exact Lk O (by rw[HTK.out];exact HH.out) HN ho ⟨hTb,⟨f,hM,HF.out⟩,amB.out⟩ hB (rC hBW hBW.size aV)
   ·
    obtain rfl:k=n.length:=Y;have au3:=J (Y6 T rU n HN.out);have h1:¬(n.length:Int)<n.length:=Y;go_wp2_with fail;go_meet
    case rel=>exact Lk (Nat.le_refl _) (by rw[HQ.out];exact au3.out) HN ho ⟨hTb,⟨f,hM,HF.out⟩,amB.out⟩ hB (below_drewN (Below.refl _ _) _)
 case rest=>
  have hbw:b<w.heap.size:=hT.2.1.elim fun f h=>h.1.lt
  obtain⟨k,c2,A2,hk2,rfl,rfl,aqc,aqj,anH,hT2,hB2⟩:=hcut;have HR:=J aqc;have HN:=J aqj;have HCE:=J anH;clear aqc aqj anH ho hT1 hB hT;obtain⟨out,ho⟩:∃out,out=(DH T rU [] n).1:=gh;rw[<-ho];have HO:=J ho;clear ho;by_cases hat:rU<0\/16384<=rU
  ·
   have hrn:=Tk rU 0 n k hat;have HRN:=J hrn;clear hrn;have hB3:=r5 hB2 (some b);rcases hat with h|h
   ·have d1:decide (rU<0)=true:=decide_eq_true h;exact qX
   ·have h0:0<=rU:=Y;have d1:decide (rU<0)=false:=je;exact qX
  ·
   have h0:0<=rU:=Y;have U:rU<16384:=Y;have d1:decide (rU<0)=false:=je;have d2:decide (16384<=rU)=false:=je;have tc:=hT2.1.rD 0 I;have hem:∀W:World,(binOp .eql 230 (.map (some b)) (.map none)).run prog W= .ok (.bool false) W:=fun W=>by rw[run_eql_map_nil W 230 _ _ _ underlying230];rfl
   clear hat;go_wp2_with fail;go_loopg [82] k (fun kk i wr=>∃j:Nat,j<=k/\kk=k-j/\i= .int .i64 j/\yS wr g b (T++xg rU 0 n j)/\wc.grownBy wr (some b))
   case atStart=>exact⟨0,Nat.zero_le _,I,I,by simpa[xg]using hT2,World.grownBy.refl _ _⟩
   case round=>
    obtain⟨j,hj,hgk,rfl,hTj,hgr⟩:=hrel;have HGK:=J hgk;clear hgk tc hT2;by_cases aA:j<k
    ·
     have h1:(j:Int)<k:=Y;obtain⟨Hh,hA2,hBw,hBx,aiC⟩:=HCE.out j aA;subst hA2;have afQ:=(AZ hgr ⟨Hh,j,none⟩ hBx aB).trans aiC;have aru:=vK n j;obtain⟨p,hp⟩:∃p,p=sq (n.take j):=gh;rw[<-hp]at afQ aru;have HP:=J hp;have hqe:q.length=sq n:=mg;have hpq:(p:Int)<=q.length:=Y;have hd1:q.drop p=uI (n.drop j):=by rw[HQ.out,HP.out,Li]
     have HD1:=J hd1;have HL:=J (Wv (rU:=rU) (show j<n.length by omega) (HN.out j aA));clear hp hqe hd1 aiC;obtain⟨hTb,⟨f,hM,hf⟩,ali⟩:=hTj;have HF:=J hf;have amB:=J ali;have tc:=hTb.rD 0 I;clear hf ali;by_cases rH:rU+p<16384
     ·
      have hx:((rU.toNat+p:Nat):Int)=rU+p:=Y;obtain⟨w',ai9,hM',hg'⟩:=(show xO wr.drew b _ f from hM).store (q.drop p) aU (rU.toNat+p) Y (by have:=ND rU 0 n j;simp only[maxLen,List.length_append];omega);rw[hx]at ai9;have hw1:IntKind.i64.wrap (rU+(p:Int))=rU+(p:Int):=kt;have HX:=J hx;clear hx;have hRS:xg rU 0 n (j+1)=xg rU 0 n j++[(n.drop j,rU.toNat+p)]:=by have e:(rU+((0+p:Nat):Int)).toNat=rU.toNat+p:=Y;rw[yk,<-HP.out,e,if_pos ((Ep _ _).2 ⟨h0,U,by simpa using rH⟩)]
      have hTN:yS w' g b (T++xg rU 0 n (j+1)):=by rw[hRS,<-List.append_assoc];exact acd hTb (hM.Co hTb) hM' HF.out amB.out HD1.out (GG.out.drop j) HL.out Y hg'
      have afp:wc.grownBy w' (some b):=rO (wI hgr) hg' (.inl I);clear hRS hM' hg';go_wp2_with fail;go_region;go_wp2_with fail;go_roundg (k-(j+1))
      case measure=>have:=HGK.out;omega
      case rel=>exact⟨j+1,Y,I,fQ,hTN,afp⟩
     ·
      have api:16384<=rU+p:=Y;have hRS:xg rU 0 n (j+1)=xg rU 0 n j:=by rw[yk,<-HP.out,if_neg (by rw[Ep];simp;omega),List.append_nil]
      have hTN:yS wr g b (T++xg rU 0 n (j+1)):=by rw[hRS];exact⟨hTb,⟨f,hM,HF.out⟩,amB.out⟩
      clear hRS;go_wp2_with fail;go_roundg (k-(j+1))
      case measure=>have:=HGK.out;omega
      case rel=>exact⟨j+1,Y,I,fQ,hTN,hgr⟩
    ·obtain rfl:j=k:=Y;have h1:¬(j:Int)<j:=Y;go_wp2_with fail;go_ret2;exact Lj HO.out (by rw[HR.out]) hTj (rO (r5 hB2 (some b)) hgr (.inl I))
def afB(lo:Nat)(w:World)(v:Value)(l:List (List UInt8)):Prop:=
 ∃A c,v= .slice A l.length c/\(0<l.length->∃b off,A=some ⟨b,off,none⟩/\b<lo/\∀i (hi:i<l.length),w.cell? ⟨b,off+i,none⟩=some (.string (bs l[i])))
theorem Y9{a b:List UInt8}{e:Int}(h:a=b):Ending.returned (.tuple #[.string (bs a),.int .i64 e])= .returned (.tuple #[.string (bs b),.int .i64 e]):=by rw[h]
end Go.Proofs.YtakkipnmpmobbaaGreat
