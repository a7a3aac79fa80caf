/-
  strings.Clone.
-/
import Derived.Test.YtakkipnmpmobbaaGreatGAq
import Derived.Lib.UnsafeStr
namespace Go.Proofs.YtakkipnmpmobbaaGreat
open _root_.Go.Proofs.Tryz
set_option maxHeartbeats 8000000
open Go.RowKit
set_option maxRecDepth 100000
set_option linter.unusedVariables false
set_option linter.unusedSimpArgs false
variable {w' W:World} {j g:Nat} {cs pre post:List Value} {p:List UInt8}
theorem Uh(l:List UInt8)(w:World)(arv:l.length<=281474976710656):Calls prog 180 #[.string (bs l)] w (rW (.string (bs l)) w):=by
 by_cases h0:l=[]
 ·subst h0;go_enter func180,ntmps180;go_wp2;go_ret;exact nH
 ·
  have aid:0<l.length:=gJ;have aqd:((l.length:Int)==0)=false:=aB;have hmk:=GI l.length arv;have Z:=N.new w 5 (sN (List.replicate l.length 0));have hcp:=Eu _ w.heap.size 0 l.length l.length l _ Z (Nat.le_refl _) cU;rw[show((sN (List.replicate l.length 0)).take 0++sN l++(sN (List.replicate l.length 0)).drop (0+l.length))=sN l by
   rw[List.take_zero,List.nil_append,List.drop_of_length_le cU,List.append_nil]]at hcp
  have O:=DL Z (sN l);have hUS:=Lib.run_unsafeString_row (P:=prog) ((w.alloc (.cells (sN (List.replicate l.length 0)).toArray 5)).setRow w.heap.size (sN l).toArray) 288 3 9 5 underlying288 Pu w.heap.size (sN l).toArray.size
   (by unfold World.shape?;rw[O]) l h0 cU Y
   (fun j x hx=>by
    obtain⟨hj,rfl⟩:=List.getElem?_eq_some_iff.1 hx;have:=O.cell j;rw[zW l j hj]at this;rw[<-this];congr 1;unfold Addr.add;split<;>simp_all)
  have aA:(0:Int)<l.length:=Y;generalize hA:(sN (List.replicate l.length 0)).toArray=M at*;generalize hC:(sN l).toArray=ay2 at*;clear hA hC Z O h0;go_enter func180,ntmps180;go_wp2;go_ret;exact rW.mk I (Lib.below_freeze (below_setRow ((Below.refl _ w).alloc (Nat.le_refl _) _) (Nat.le_refl _) _) (p:=⟨w.heap.size,0,none⟩) (Nat.le_refl _) _)
theorem Od(l:List UInt8)(w:World)(arv:l.length<=281474976710656):Calls prog 173 #[.string (bs l)] w (rW (.string (bs l)) w):=by
 go_enter func173,ntmps173;go_wp2_with(go_at_call 180;refine(Uh l _ arv).mono ?_;rintro e B ⟨rfl,b1⟩);go_ret;exact rW.mk I b1
def tV(w:World):List (List UInt8)->Option Nat->Prop
 |[],o=>o=none
 |t::rest,o=>∃(g:Nat) (next:Option Nat),o=some g/\t≠[]/\N w g 282 [.string (bs t),.pointer (next.map fun k=>⟨k,0,none⟩)]/\tV w rest next
theorem tV.grown{w:World}(hj:N w j 243 cs)(hg:w.grownBy w' (some j)):∀(ts:List (List UInt8)) (o:Option Nat),tV w ts o->tV w' ts o:=by
 intro ts;induction ts with
 |nil=>intro o h;exact h
 |cons t rest ih=>rintro o ⟨g,next,U,F,h3,h4⟩;refine⟨g,next,U,F,h3.grown hg ?_,ih next h4⟩;rintro e;injection e with e;subst e;unfold N at h3 hj;rw[h3]at hj;injection hj with hj;injection hj with _ ht;exact absurd ht K
theorem tV.set{w:World}(hj:N w j 243 cs)(i:Nat)(u:Value)(ts:List (List UInt8))(o:Option Nat)(h:tV w ts o):tV (w.setCell ⟨j,i,none⟩ u) ts o:=
 tV.grown hj (sd (World.grownBy.refl _ _) i u) ts o h
theorem tV.alloc{w:World}(x:Obj):∀(ts:List (List UInt8)) (o:Option Nat),tV w ts o->tV (w.alloc x) ts o:=by
 intro ts;induction ts with
 |nil=>intro o h;exact h
 |cons t rest ih=>rintro o ⟨g,next,U,F,h3,h4⟩;exact⟨g,next,U,F,h3.alloc x,ih next h4⟩
theorem tV.drew{w:World}:∀(ts:List (List UInt8)) (o:Option Nat),tV w ts o->tV w.drew ts o:=by
 intro ts;induction ts with
 |nil=>intro o h;exact h
 |cons t rest ih=>rintro o ⟨g,next,U,F,h3,h4⟩;exact⟨g,next,U,F,h3.drew,ih next h4⟩
def CG(ts:List (List UInt8)):List UInt8:=ts.reverse.flatten
theorem GY(t:List UInt8)(ts:List (List UInt8)):CG (t::ts)=CG ts++t:=by simp[CG]
def JB(pre post:List Value)(a b c d:Value):List Value:=pre++a::b::c::d::post
section
variable {pre post:List Value} {a b c d:Value} (h:pre.length=26)
include h
theorem jb0:(JB pre post a b c d)[26]?=some a:=by unfold JB;rw[List.getElem?_append_right Y,h];rfl
theorem Xq:(JB pre post a b c d)[27]?=some b:=by unfold JB;rw[List.getElem?_append_right Y,h];rfl
theorem jb2:(JB pre post a b c d)[28]?=some c:=by unfold JB;rw[List.getElem?_append_right Y,h];rfl
theorem jb3:(JB pre post a b c d)[29]?=some d:=by unfold JB;rw[List.getElem?_append_right Y,h];rfl
variable {w:World} {g:Nat} {t:TypeId}
theorem js0(k:N w g t (JB pre post a b c d))(x:Value):N (w.setCell ⟨g,26,none⟩ x) g t (JB pre post x b c d):=by have:=k.set 26 x;unfold JB at this⊢;rwa[List.set_append_right _ _ Y,h]at this
theorem js1(k:N w g t (JB pre post a b c d))(x:Value):N (w.setCell ⟨g,27,none⟩ x) g t (JB pre post a x c d):=by have:=k.set 27 x;unfold JB at this⊢;rwa[List.set_append_right _ _ Y,h]at this
theorem js2(k:N w g t (JB pre post a b c d))(x:Value):N (w.setCell ⟨g,28,none⟩ x) g t (JB pre post a b x d):=by have:=k.set 28 x;unfold JB at this⊢;rwa[List.set_append_right _ _ Y,h]at this
theorem js3(k:N w g t (JB pre post a b c d))(x:Value):N (w.setCell ⟨g,29,none⟩ x) g t (JB pre post a b c x):=by have:=k.set 29 x;unfold JB at this⊢;rwa[List.set_append_right _ _ Y,h]at this
end
def ub(w:World)(g:Nat)(pre post:List Value)(p:List UInt8):Prop:=
 ∃(last:Option Nat) (ts:List (List UInt8)) (b0 b1:UInt8),pre.length=26/\N w g 243 (JB pre post (.pointer (last.map fun k=>⟨k,0,none⟩)) (.int .i64 p.length) (.int .u8 (b0.toNat:Int)) (.int .u8 (b1.toNat:Int)))/\
  tV w ts last/\CG ts=p/\(∀x,p[0]?=some x->b0=x)/\(∀x,p[1]?=some x->b1=x)
def zJ(v:Value)(g:Nat)(pre post:List Value)(p:List UInt8)(w:World)(e:Ending)(w':World):Prop:=e= .returned v/\ub w' g pre post p/\w.grownBy w' (some g)
theorem aam(g:Nat)(pre post:List Value)(p:List UInt8)(w:World)(h:ub w g pre post p):Calls prog 168 #[.pointer (some ⟨g,26,none⟩),.string (bs [])] w (zJ (.tuple #[]) g pre post (p++[]) w):=by
 go_enter func168,ntmps168;go_wp2;refine bodyPost_ret (results_none I _ _ _) I ?_;exact⟨I,aw,World.grownBy.refl _ _⟩
theorem Oe{w:World}(hpl:pre.length=26){s:List UInt8}{last:Option Nat}{ts:List (List UInt8)}{b0 b1:UInt8}(O:N W g 243 (JB pre post (.pointer (last.map fun k=>⟨k,0,none⟩)) (.int .i64 p.length) (.int .u8 (b0.toNat:Int)) (.int .u8 (b1.toNat:Int))))
  (hc:tV W ts last) (ht:CG ts=p) (hs:s≠[]) (h0:∀x,(p++s)[0]?=some x->b0=x) (U:∀x,(p++s)[1]?=some x->b1=x) (hg:w.grownBy W (some g)) (n:Int) (hn:n=(p.length:Int)+s.length):
  zJ (.tuple #[]) g pre post (p++s) w (.returned (.tuple #[])) (((W.setCell ⟨g,26,none⟩ (.pointer (some ⟨W.heap.size,0,none⟩))).setCell ⟨g,27,none⟩ (.int .i64 n)).alloc (.cells #[.string (bs s),.pointer (last.map fun k=>⟨k,0,none⟩)] 282)):=by
 subst hn;have hk1:=js1 hpl (js0 hpl O (.pointer (some ⟨W.heap.size,0,none⟩))) (.int .i64 (p.length+s.length));refine⟨I,⟨some W.heap.size,s::ts,b0,b1,hpl,?_,⟨W.heap.size,last,I,hs,?_,?_⟩,?_,h0,U⟩,?_⟩
 ·have:=hk1.alloc (.cells #[.string (bs s),.pointer (last.map fun k=>⟨k,0,none⟩)] 282);simpa using this
 ·exact N.uE _ _ [.string (bs s),.pointer (last.map fun k=>⟨k,0,none⟩)] _ ar
 ·exact tV.alloc _ _ _ (tV.set (js0 hpl O _) 27 _ _ _ (tV.set O 26 _ _ _ hc))
 ·rw[GY,ht]
 ·exact zB (sd (sd hg 26 _) 27 _) _
theorem aan(g:Nat)(pre post:List Value)(p s:List UInt8)(w:World)(h:ub w g pre post p)(hp:2<=p.length)(hs:s≠[])(Z:p.length+s.length<=281474976710656):
  Calls prog 168 #[.pointer (some ⟨g,26,none⟩),.string (bs s)] w (zJ (.tuple #[]) g pre post (p++s) w):=by
 obtain⟨last,ts,b0,b1,hpl,O,hc,ht,h0,U⟩:=h;have c0:=O.rD 26 (jb0 hpl);have c1:=O.rD 27 (Xq hpl);have f0:=O.frozen 26;have f1:=O.frozen 27;have hse:(s==[])=false:=lI;have hp':¬(p.length:Int)<2:=Y;have hgl:=O.lt;go_enter func168,ntmps168;go_wp2_with fail;refine wp_loop_rounds 1 ?_;rw[rounds_succ];go_wp2_with fail;go_end0;exact Oe hpl O hc ht hs (fun x hx=>h0 x (by rwa[List.getElem?_append_left Y]at hx)) (fun x hx=>U x (by rwa[List.getElem?_append_left Y]at hx)) (World.grownBy.refl _ _) _ I
theorem aao(g:Nat)(pre post:List Value)(c a:UInt8)(s:List UInt8)(w:World)(h:ub w g pre post [c])(Z:s.length+2<=281474976710656):
  Calls prog 168 #[.pointer (some ⟨g,26,none⟩),.string (bs (a::s))] w (zJ (.tuple #[]) g pre post ([c]++(a::s)) w):=by
 obtain⟨last,ts,b0,b1,hpl,O,hc,ht,h0,U⟩:=h;have c0:=O.rD 26 (jb0 hpl);have c1:=O.rD 27 (Xq hpl);have c3:=O.rD 29 (jb3 hpl);have f3:=O.frozen 29;have hgl:=O.lt;rw[show(([c].length:Nat):Int)=1 from I]at c1;go_enter func168,ntmps168;go_wp2_with fail;refine wp_loop_rounds 2 ?_;rw[rounds_succ];go_wp2_with fail;go_region;go_wp2_with fail;obtain⟨W,hW⟩:∃W,W=(w.setCell ⟨g,29,none⟩ (.int .u8 (a.toNat:Int))).drew:=gh;rw[<-hW];have hk1:N W g 243 (JB pre post (.pointer (last.map fun k=>⟨k,0,none⟩)) (.int .i64 ([c].length:Nat)) (.int .u8 (b0.toNat:Int)) (.int .u8 (a.toNat:Int))):=hW▸(js3 hpl O (.int .u8 (a.toNat:Int))).drew;have hc1:tV W ts last:=hW▸tV.drew _ _ (tV.set O 29 _ _ _ hc);have hg1:w.grownBy W (some g):=hW▸wI (sd (World.grownBy.refl _ _) 29 _);clear hW c0 c1 c3 f3 hgl O hc;have c0:=hk1.rD 26 (jb0 hpl);have c1:=hk1.rD 27 (Xq hpl);have f0:=hk1.frozen 26;have f1:=hk1.frozen 27;have hgl:=hk1.lt;rw[show(([c].length:Nat):Int)=1 from I]at c1;rw[rounds_succ];go_wp2_with fail;go_end0;exact Oe hpl (s:=a::s) hk1 hc1 ht ar (fun x hx=>h0 x (by simpa using hx)) (fun x hx=>by simpa using hx) hg1 _ ar
theorem Ui(g:Nat)(pre post:List Value)(a:UInt8)(w:World)(h:ub w g pre post []):
  Calls prog 168 #[.pointer (some ⟨g,26,none⟩),.string (bs [a])] w (zJ (.tuple #[]) g pre post ([]++[a]) w):=by
 obtain⟨last,ts,b0,b1,hpl,O,hc,ht,h0,U⟩:=h;have c0:=O.rD 26 (jb0 hpl);have c1:=O.rD 27 (Xq hpl);have c2:=O.rD 28 (jb2 hpl);have f2:=O.frozen 28;have hgl:=O.lt;rw[show((([]:List UInt8).length:Nat):Int)=0 from I]at c1;go_enter func168,ntmps168;go_wp2_with fail;refine wp_loop_rounds 2 ?_;rw[rounds_succ];go_wp2_with fail;go_region;go_wp2_with fail;obtain⟨W,hW⟩:∃W,W=(w.setCell ⟨g,28,none⟩ (.int .u8 (a.toNat:Int))).drew:=gh;rw[<-hW];have hk1:N W g 243 (JB pre post (.pointer (last.map fun k=>⟨k,0,none⟩)) (.int .i64 (([]:List UInt8).length:Nat)) (.int .u8 (a.toNat:Int)) (.int .u8 (b1.toNat:Int))):=kE;have hc1:tV W ts last:=kM;have hg1:w.grownBy W (some g):=j4;clear hW c0 c1 c2 f2 hgl O hc;have c0:=hk1.rD 26 (jb0 hpl);have c1:=hk1.rD 27 (Xq hpl);have f0:=hk1.frozen 26;have f1:=hk1.frozen 27;have hgl:=hk1.lt;rw[show((([]:List UInt8).length:Nat):Int)=0 from I]at c1;rw[rounds_succ];go_wp2_with fail;go_end0;exact Oe hpl (s:=[a]) hk1 hc1 ht ar (fun x hx=>by simpa using hx) (fun x hx=>by simp at hx) hg1 _ ar
theorem Uj(g:Nat)(pre post:List Value)(a b:UInt8)(s:List UInt8)(w:World)(h:ub w g pre post [])(Z:s.length+2<=281474976710656):
  Calls prog 168 #[.pointer (some ⟨g,26,none⟩),.string (bs (a::b::s))] w (zJ (.tuple #[]) g pre post ([]++(a::b::s)) w):=by
 obtain⟨last,ts,b0,b1,hpl,O,hc,ht,h0,U⟩:=h;have c0:=O.rD 26 (jb0 hpl);have c1:=O.rD 27 (Xq hpl);have c2:=O.rD 28 (jb2 hpl);have f2:=O.frozen 28;have hgl:=O.lt;rw[show((([]:List UInt8).length:Nat):Int)=0 from I]at c1;go_enter func168,ntmps168;go_wp2_with fail;refine wp_loop_rounds 3 ?_;rw[rounds_succ];go_wp2_with fail;go_region;go_wp2_with fail;obtain⟨W,hW⟩:∃W,W=(w.setCell ⟨g,28,none⟩ (.int .u8 (a.toNat:Int))).drew:=gh;rw[<-hW];have hk1:N W g 243 (JB pre post (.pointer (last.map fun k=>⟨k,0,none⟩)) (.int .i64 (([]:List UInt8).length:Nat)) (.int .u8 (a.toNat:Int)) (.int .u8 (b1.toNat:Int))):=kE;have hc1:tV W ts last:=kM;have hg1:w.grownBy W (some g):=j4;clear hW c0 c1 c2 f2 hgl O hc;have c0:=hk1.rD 26 (jb0 hpl);have c1:=hk1.rD 27 (Xq hpl);have f0:=hk1.frozen 26;have f1:=hk1.frozen 27;have hgl:=hk1.lt;have c3:=hk1.rD 29 (jb3 hpl);have f3:=hk1.frozen 29;rw[show((([]:List UInt8).length:Nat):Int)=0 from I]at c1;rw[rounds_succ];go_wp2_with fail;go_region;go_wp2_with fail;obtain⟨V,hV⟩:∃V,V=(W.setCell ⟨g,29,none⟩ (.int .u8 (b.toNat:Int))).drew:=gh;rw[<-hV];have hk2:N V g 243 (JB pre post (.pointer (last.map fun k=>⟨k,0,none⟩)) (.int .i64 (([]:List UInt8).length:Nat)) (.int .u8 (a.toNat:Int)) (.int .u8 (b.toNat:Int))):=hV▸(js3 hpl hk1 (.int .u8 (b.toNat:Int))).drew;have hc2:tV V ts last:=hV▸tV.drew _ _ (tV.set hk1 29 _ _ _ hc1);have hg2:w.grownBy V (some g):=hV▸wI (sd hg1 29 _);clear hV c0 c1 c3 f0 f1 f3 hgl hk1 hc1 hg1;have c0:=hk2.rD 26 (jb0 hpl);have c1:=hk2.rD 27 (Xq hpl);have f0:=hk2.frozen 26;have f1:=hk2.frozen 27;have hgl:=hk2.lt;rw[show((([]:List UInt8).length:Nat):Int)=0 from I]at c1;rw[rounds_succ];go_wp2_with fail;go_end0;exact Oe hpl (s:=a::b::s) hk2 hc2 ht ar (fun x hx=>by simpa using hx) (fun x hx=>by simpa using hx) hg2 _ ar
theorem Ju(g:Nat)(pre post:List Value)(p s:List UInt8)(w:World)(h:ub w g pre post p)(Z:p.length+s.length<=281474976710656):
  Calls prog 168 #[.pointer (some ⟨g,26,none⟩),.string (bs s)] w (zJ (.tuple #[]) g pre post (p++s) w):=by
 rcases s with _|⟨a,s⟩
 ·exact aam g pre post p w h
 ·
  rcases p with _|⟨c,p⟩
  ·
   rcases s with _|⟨b,s⟩
   ·exact Ui g pre post a w h
   ·exact Uj g pre post a b s w h aM
  ·
   rcases p with _|⟨d,p⟩
   ·exact aao g pre post c a s w h (by simp at Z;omega)
   ·exact aan g pre post _ _ w h ar ar Z
def uh(p:List UInt8):Bool:=decide (2<=p.length)&&decide (sY (p.take 2)<=p.length-2)
theorem zj(s:List UInt8):uh s=true↔2<=s.length/\sY (s.take 2)<=s.length-2:=by simp[uh]
def KK(s:List UInt8):List UInt8:=(s.drop 2).take (sY (s.take 2))
def yC(s:List UInt8):List UInt8:=s.drop (2+sY (s.take 2))
def frF:Nat->List UInt8->List (List UInt8)×List UInt8
 |0,s=>([],s)
 |k+1,s=>if uh s then(KK s::(frF k (yC s)).1,(frF k (yC s)).2)else([],s)
theorem zk(s:List UInt8)(h:uh s=true):(yC s).length+2<=s.length:=by
 have:=(zj s).1 h;simp[yC];omega
theorem aaq:∀(k j:Nat) (s:List UInt8),s.length<=k->s.length<=j->frF k s=frF j s:=by
 intro k;induction k with
 |zero=>
  intro j s O hj;have hs:s=[]:=gE;subst hs;cases j with
  |zero=>rfl
  |succ j=>simp[frF,uh]
 |succ k ih=>
  intro j s O hj;cases j with
  |zero=>have hs:s=[]:=gE;subst hs;simp[frF,uh]
  |succ j=>
   unfold frF;cases hw:uh s with
   |false=>rfl
   |true=>have:=zk s hw;rw[ih j (yC s) Y Y]
def uc(s:List UInt8):List (List UInt8):=(frF s.length s).1
def wD(s:List UInt8):List UInt8:=(frF s.length s).2
theorem tR(s:List UInt8)(h:uh s=false):uc s=[]/\wD s=s:=by
 unfold uc wD;cases s.length with
 |zero=>exact⟨I,I⟩
 |succ k=>simp[frF,h]
theorem vT(s:List UInt8)(h:uh s=true):uc s=KK s::uc (yC s)/\wD s=wD (yC s):=by
 have E:=zk s h;obtain⟨k,O⟩:∃k,s.length=k+1:=⟨s.length-1,Y⟩;unfold uc wD;rw[O];simp only[frF,h,if_true];rw[aaq k (yC s).length (yC s) Y (Nat.le_refl _)];exact⟨I,I⟩
theorem Xr(a b:List UInt8)(h:uh a=true):uh (a++b)=true/\KK (a++b)=KK a/\yC (a++b)=yC a++b:=by
 obtain⟨U,F⟩:=(zj a).1 h;have e:(a++b).take 2=a.take 2:=List.take_append_of_le_length U;refine⟨(zj _).2 ⟨aB,by rw[e];simp;omega⟩,?_,?_⟩
 ·unfold KK;rw[e,List.drop_append_of_le_length U,List.take_append_of_le_length aB]
 ·unfold yC;rw[e,List.drop_append_of_le_length Y]
theorem Uk:∀(n:Nat) (a b:List UInt8),a.length<=n->uc (a++b)=uc a++uc (wD a++b)/\wD (a++b)=wD (wD a++b):=by
 intro n;induction n with
 |zero=>intro a b h;have ha:a=[]:=gE;subst ha;have:=tR [] I;rw[this.1,this.2];simp
 |succ n ih=>
  intro a b h;cases hw:uh a with
  |false=>rw[(tR a hw).1,(tR a hw).2];simp
  |true=>obtain⟨B,w2,w3⟩:=Xr a b hw;have E:=zk a hw;obtain⟨i1,i2⟩:=ih (yC a) b Y;rw[(vT _ B).1,(vT _ B).2,(vT a hw).1,(vT a hw).2,w2,w3,i1,i2];simp
theorem aar:∀(n:Nat) (a:List UInt8),a.length<=n->(wD a).length<=a.length:=by
 intro n;induction n with
 |zero=>intro a h;have ha:a=[]:=gE;subst ha;rw[(tR [] I).2];exact Nat.le_refl _
 |succ n ih=>
  intro a h;cases hw:uh a with
  |false=>rw[(tR a hw).2];exact Nat.le_refl _
  |true=>have E:=zk a hw;have:=ih (yC a) Y;rw[(vT a hw).2];omega
theorem Xs:∀(n:Nat) (a:List UInt8),a.length<=n->(uc a).length*2+(wD a).length<=a.length:=by
 intro n;induction n with
 |zero=>intro a h;have ha:a=[]:=gE;subst ha;rw[(tR [] I).1,(tR [] I).2];simp
 |succ n ih=>
  intro a h;cases hw:uh a with
  |false=>rw[(tR a hw).1,(tR a hw).2];simp
  |true=>have E:=zk a hw;have:=ih (yC a) Y;rw[(vT a hw).1,(vT a hw).2];simp;omega
theorem Ul{A B:World}(h:ao A W)(b:ao W B):ao A B:=h.trans (b.mono h.size)
theorem afT{p q:Prop}(h:p)(f:p->q):p/\q:=⟨h,f h⟩
theorem ad8(g:Nat)(rest:List UInt8)(w:World)(h:ye w g rest false)(E:rest.length<=maxLen)(F:2<=rest.length):
  Calls prog 172 #[.pointer (some ⟨g,0,none⟩),.int .i64 2] w (Iv (.int .i64 (sY (rest.take 2))) g (rest.drop 2) false w):=by
 exact nV
theorem QP(g:Nat)(pre post:List Value)(p:List UInt8)(w:World)(h:ub w g pre post p)(hp:p.length<2):Calls prog 169 #[.pointer (some ⟨g,26,none⟩)] w (rW (.bool (uh p)) w):=by
 obtain⟨last,ts,b0,b1,hpl,O,hc,ht,h0,U⟩:=h;have c1:=O.rD 27 (Xq hpl);have hp':(p.length:Int)<2:=Y;have hd:decide ((2:Int)<=p.length)=false:=aB;have hw0:uh p=false:=by simp[uh];omega
 rw[hw0];clear hw0;go_enter func169,ntmps169;go_wp2_with fail;go_quiet(fail);go_wp2_with fail;go_ret;exact rm
theorem Xt(g:Nat)(pre post:List Value)(a b:UInt8)(p:List UInt8)(w:World)(h:ub w g pre post (a::b::p))(hm:p.length<=281474976710656):Calls prog 169 #[.pointer (some ⟨g,26,none⟩)] w (rW (.bool (uh (a::b::p))) w):=by
 obtain⟨last,ts,b0,b1,hpl,O,hc,ht,h0,U⟩:=h;obtain rfl:b0=a:=h0 a I;obtain rfl:b1=b:=U b I;obtain⟨n,hn⟩:∃n:Int,n=((b0::b1::p).length:Nat):=gh;rw[<-hn]at O;have hn2:(2:Int)<=n:=by simp at hn;omega
 have hn3:n<=281474976710658:=by simp at hn;omega
 have hd:decide ((2:Int)<=n)=true:=by simpa using hn2
 have HN:=J hn;have hcv:∀W,ao w W->W.cell? ⟨g,27,none⟩=some (.int .i64 n)/\(convert 101 9 (.slice (some ⟨g,28,none⟩) 2 2)).run prog W= .ok (.string (bs [b0,b1])) W:=by
  intro W hW;have hB:=O.G hW O.lt;refine⟨hB.rD 27 (Xq hpl),run_convert_bytes_back W 101 9 5 ⟨g,28,none⟩ 2 [b0,b1] underlying101 underlying5 underlying9 ?_⟩;intro j hj;have:j=0\/j=1:=by simp at hj;omega
  rcases this with rfl|rfl
  ·exact hB.rD 28 (jb2 hpl)
  ·exact hB.rD 29 (jb3 hpl)
 have HS:=J hcv;have c1:=O.rD 27 (Xq hpl);clear hcv hn O hc ht h0 U;go_enter func169,ntmps169;go_wp2_with fail;go_region_held3(fun w'=>ao w w'/\w'.cell? ⟨g,27,none⟩=some (.int .i64 n)/\(convert 101 9 (.slice (some ⟨g,28,none⟩) 2 2)).run prog w'= .ok (.string (bs [b0,b1])) w') ((refine afT ?_ (HS.out _);first|exact(Below.refl _ _).drew|exact Ul (And.left ‹ao w _/\_›) b3|exact rE (And.left ‹ao w _/\_›) b4 (And.left ‹ao w _/\_›).size hg3))
  (first
   |(go_at_call 171;refine(Ba [b0,b1] _).mono ?_;rintro e w3 ⟨rfl,h3,b3⟩;have hg3:=(And.left ‹ao w _/\_›).size)
   |(go_at_call 172;refine(ad8 _ [b0,b1] _ h3 (by simp[maxLen]) ar).mono ?_;rintro e w4 ⟨rfl,h4,b4⟩))
 have aBD:=And.left ‹ao w _/\_›;go_wp2_with fail;go_ret;refine rW.mk (xJ ?_) aBD;rw[IntWalk.i64_in _ Y];have:=HN.out;simp only[List.length_cons]at this;simp only[uh,List.length_cons,List.take_succ_cons,List.take_zero];rw[Bool.eq_iff_iff];simp only[decide_eq_true_eq,Bool.and_eq_true];constructor
 ·intro hh;refine⟨Y,decide_eq_true ?_⟩;omega
 ·rintro⟨_,hh⟩;have:=of_decide_eq_true hh;omega
theorem Mp(g:Nat)(pre post:List Value)(p:List UInt8)(w:World)(h:ub w g pre post p)(hm:p.length<=281474976710656):Calls prog 169 #[.pointer (some ⟨g,26,none⟩)] w (rW (.bool (uh p)) w):=by
 rcases p with _|⟨a,p⟩
 ·exact QP g pre post [] w h ar
 ·
  rcases p with _|⟨b,p⟩
  ·exact QP g pre post [a] w h ar
  ·exact Xt g pre post a b p w h (by simp at hm;omega)
def zm(n:Nat)(done:List UInt8):List Value:=sN (List.replicate (n-done.length) 0)++sN done
theorem Of(n:Nat)(done:List UInt8)(h:done.length<=n):(zm n done).length=n:=by simp[zm,sI];omega
theorem Um(n:Nat)(t done:List UInt8)(h:t.length+done.length<=n):
  (zm n done).take (n-(t.length+done.length))++sN t++(zm n done).drop (n-(t.length+done.length)+t.length)=zm n (t++done):=by
 have e1:(zm n done).take (n-(t.length+done.length))=sN (List.replicate (n-(t.length+done.length)) 0):=by unfold zm;rw[List.take_append_of_le_length aJ];simp[sN,List.take_replicate];omega
 have e2:(zm n done).drop (n-(t.length+done.length)+t.length)=sN done:=by unfold zm;rw[List.drop_append_of_le_length aJ,List.drop_of_length_le aJ,List.nil_append]
 rw[e1,e2];unfold zm;rw[xL,List.length_append,List.append_assoc]
theorem tV.wF{w:World}(O:∀g cs,N w g 282 cs->N w' g 282 cs):∀(ts:List (List UInt8)) (o:Option Nat),tV w ts o->tV w' ts o:=by
 intro ts;induction ts with
 |nil=>intro o h;exact h
 |cons t rest ih=>rintro o ⟨g,next,U,F,h3,h4⟩;exact⟨g,next,U,F,O g _ h3,ih next h4⟩
theorem N.aas{w:World}{g':Nat}{t t':TypeId}{cs':List Value}(h:N w g t cs)(h':N w g' t' cs')(hl:t≠t'):g≠g':=by
 rintro rfl;unfold N at h h';rw[h]at h';injection h' with h';injection h' with _ ht;exact hl ht
def QR(w:World)(g:Nat)(pre post:List Value)(p:List UInt8)(last:Option Nat)(b0 b1:UInt8)(k:Option Nat)(ts:List (List UInt8))(done:List UInt8)(wr:World):Prop:=
 N wr g 243 (JB pre post (.pointer (last.map fun k=>⟨k,0,none⟩)) (.int .i64 p.length) (.int .u8 (b0.toNat:Int)) (.int .u8 (b1.toNat:Int)))/\tV wr ts k/\CG ts++done=p/\
  N wr w.heap.size 5 (zm p.length done)/\ao w wr
theorem Xu(g:Nat)(pre post:List Value)(p:List UInt8)(w:World)(h:ub w g pre post p)(hm:p.length<=281474976710656):Calls prog 170 #[.pointer (some ⟨g,26,none⟩)] w (zJ (.string (bs p)) g pre post [] w):=by
 obtain⟨last,ts,b0,b1,hpl,O,hc,ht,h0,U⟩:=h;have c0:=O.rD 26 (jb0 hpl);have c1:=O.rD 27 (Xq hpl);have hgl:=O.lt;have hmk:=GI p.length hm;have hinv:QR w g pre post p last b0 b1 last ts [] (w.alloc (.cells (sN (List.replicate p.length 0)).toArray 5)):=
  ⟨O.alloc _,tV.alloc _ _ _ hc,by rw[ht,List.append_nil],by
   have:=N.new w 5 (sN (List.replicate p.length 0));simpa[zm,sN]using this,(Below.refl _ _).alloc (Nat.le_refl _) _⟩
 have HI:=J hinv;clear hinv hc ht h0 U O;go_enter func170,ntmps170;go_wp2_with fail;clear hmk c0 c1;go_loopw[4,5] (fun rU q wr=>∃(k:Option Nat) (ts:List (List UInt8)) (done:List UInt8) (o:Option Addr),o=k.map (fun k=>⟨k,0,none⟩)/\rU= .int .i64 ((p.length-done.length:Nat):Int)/\q= .pointer o/\QR w g pre post p last b0 b1 k ts done wr)
  (fun rU _ _=>(intOf rU).toNat)
 case atStart=>exact⟨last,ts,[],_,I,ar,I,HI.out⟩
 case round=>
  clear HI;obtain⟨k,ts,done,o,ho,rfl,rfl,q0,q1,q2,q3,q4⟩:=hrel;rcases ts with _|⟨t,rest⟩
  ·
   obtain rfl:k=none:=q1;obtain rfl:o=none:=ho;have hd:done=p:=by simpa[CG]using q2
   subst hd;have c0:=q0.rD 26 (jb0 hpl);have c1:=q0.rD 27 (Xq hpl);have c2:=q0.rD 28 (jb2 hpl);have c3:=q0.rD 29 (jb3 hpl);have f0:=q0.frozen 26;have f1:=q0.frozen 27;have f2:=q0.frozen 28;have f3:=q0.frozen 29;have hgn:g≠w.heap.size:=Y;have hg4:wr.grownBy ((((wr.setCell ⟨g,26,none⟩ (.pointer none)).setCell ⟨g,27,none⟩ (.int .i64 0)).setCell ⟨g,28,none⟩ (.int .u8 0)).setCell ⟨g,29,none⟩ (.int .u8 0)) (some g):=sd (sd (sd (sd (World.grownBy.refl _ _) 26 _) 27 _) 28 _) 29 _;have hk4:N ((((wr.setCell ⟨g,26,none⟩ (.pointer none)).setCell ⟨g,27,none⟩ (.int .i64 0)).setCell ⟨g,28,none⟩ (.int .u8 0)).setCell ⟨g,29,none⟩ (.int .u8 0)) g 243 (JB pre post (.pointer none) (.int .i64 0) (.int .u8 0) (.int .u8 0)):=js3 hpl (js2 hpl (js1 hpl (js0 hpl q0 (.pointer none)) (.int .i64 0)) (.int .u8 0)) (.int .u8 0);have hcv:=IB _ w.heap.size done.length done _ (q3.grown hg4 aB) (by unfold zm;rw[Nat.sub_self,List.take_of_length_le (by simp[sN])];rfl);have HK:=J hk4;have HG:=J hg4;clear hk4 hg4;go_wp2_with fail;go_ret;refine⟨I,⟨none,[],0,0,hpl,HK.out,I,I,ar,ar⟩,?_⟩;exact rO (r5 q4 (some g)) HG.out (.inl I)
  ·
   obtain⟨kk,next,rfl,r1,r2,r3⟩:=q1;obtain rfl:o=some ⟨kk,0,none⟩:=ho;obtain⟨o2,ho2⟩:∃o2:Option Addr,o2=next.map fun k=>⟨k,0,none⟩:=gh
   rw[<-ho2]at r2;have HO:=J ho2;clear ho2;have c0:=r2.rD 0 I;have c1:=r2.rD 1 I;rw[GY]at q2;have hlen:(CG rest).length+t.length+done.length=p.length:=by rw[<-q2];simp;omega
   have aid:0<t.length:=List.length_pos_iff.2 r1;have hl1:t.length+done.length<=p.length:=Y;obtain⟨m,hm1⟩:∃m,m=p.length-(t.length+done.length):=gh;rw[show p.length-done.length=m+t.length by omega];have hfl:=Of p.length done Y;have hcp:=Eu wr.drew w.heap.size m (p.length-m) (p.length-m) t (zm p.length done) q3.drew Y Y;have hfc:=Um p.length t done hl1;rw[<-hm1]at hfc;rw[hfc]at hcp;have hmp:m<=p.length:=Y;have hl:¬p.length=m:=Y;have hgk:=r2.lt;have Q2:=J q2;have HL:=J hlen;have HM:=J hm1;clear hfc hfl q2 hlen hm1;generalize hF:zm p.length (t++done)=ahk at*;have HF:=J hF;clear hF;go_wp2_with fail;go_region;obtain⟨W,hW⟩:∃W,W=wr.drew.setRow w.heap.size ahk.toArray:=gh;rw[<-hW];have alO:∀j t cs,t≠5->N wr j t cs->N W j t cs:=fun j t cs hl Z=>hW▸S0 Z.drew _ (Z.aas q3 hl)
   have s0:=alO _ _ _ K q0;have s2:=alO _ _ _ K r2;have s3:=tV.wF (fun j cs Z=>alO j _ cs K Z) _ _ r3;have s4:N W w.heap.size 5 ahk:=hW▸DL q3.drew ahk;have s5:ao w W:=hW▸below_setRow q4.drew (Nat.le_refl _) _;clear hW alO hcp q0 q3 q4 r2 r3 c0 c1;have c1:=s2.rD 1 I;go_wp2_with fail;go_roundw
   case rel=>refine⟨next,rest,t++done,o2,HO.out,?_,I,s0,s3,by rw[<-List.append_assoc];exact Q2.out,by rw[HF.out];exact s4,s5⟩;have:=HM.out;rw[List.length_append,this]
   case measure=>simp[intOf];omega
theorem ub.wF{w:World}(O:∀j t cs,t≠9->N w j t cs->N w' j t cs)(h:ub w g pre post p):ub w' g pre post p:=by
 obtain⟨last,ts,b0,b1,hpl,Z,hc,r⟩:=h;exact⟨last,ts,b0,b1,hpl,O _ _ _ K Z,tV.wF (fun j cs Z=>O j _ cs K Z) _ _ hc,r⟩
theorem ub.G{w:World}(h:ub w g pre post p)(Z:ao w w'):ub w' g pre post p:=
 h.wF fun _ _ _ _ hj=>hj.G Z hj.lt
theorem ub.grown{w:World}{k:Nat}(h:ub w g pre post p)(hg:w.grownBy w' (some k)){t:TypeId}(O:N w k t cs)(U:t≠243)(F:t≠282):ub w' g pre post p:=by
 obtain⟨last,ts,b0,b1,hpl,Z,hc,r⟩:=h;refine⟨last,ts,b0,b1,hpl,Z.grown hg ?_,tV.wF (fun j cs hj=>hj.grown hg ?_) _ _ hc,r⟩
 ·intro e;injection e with e;exact Z.aas O (Ne.symm U) e
 ·intro e;injection e with e;exact hj.aas O (Ne.symm F) e
def Og(g:Nat)(pre post:List Value)(fr:List (List UInt8))(rest:List UInt8)(w:World)(e:Ending)(w':World):Prop:=∃v,e= .returned v/\tw w' v fr/\ub w' g pre post rest/\w.grownBy w' (some g)
def aat:Value->Nat
 | .string s=>s.size
 |_=>0
theorem acO(g:Nat)(pre post:List Value)(p s:List UInt8)(w:World)(h:ub w g pre post p)(Z:p.length+s.length<=281474976710656)(hw:uh (p++s)=false):
  Calls prog 165 #[.pointer (some ⟨g,26,none⟩),.string (bs s)] w (Og g pre post (uc (p++s)) (wD (p++s)) w):=by
 rw[(tR _ hw).1,(tR _ hw).2];have HW:=J hw;clear hw;go_enter func165,ntmps165;go_wp2_with fail;refine(Ju g pre post p s w h Z).mono ?_;rintro e B ⟨rfl,U,g1⟩;go_wp2_with fail;refine(Mp g pre post _ _ U aM).mono ?_;rw[HW.out];rintro e w2 ⟨rfl,b2⟩;go_wp2_with fail;go_ret;exact⟨_,I,tw.nil _,U.G b2,tO g1 b2⟩
def Vx(w:World)(g:Nat)(pre post:List Value)(s:List UInt8)(r:List UInt8)(v:Value)(wr:World):Prop:=
 ∃done,tw wr v done/\done.length+r.length<=s.length/\ub wr g pre post []/\w.grownBy wr (some g)/\(∀k,v.ownBlock=some k->w.heap.size<=k)/\uc s=done++uc r/\wD s=wD r
theorem aau(g:Nat)(pre post:List Value)(p s:List UInt8)(w:World)(h:ub w g pre post p)(Z:p.length+s.length<=8796093022208)(hw:uh (p++s)=true):
  Calls prog 165 #[.pointer (some ⟨g,26,none⟩),.string (bs s)] w (Og g pre post (uc (p++s)) (wD (p++s)) w):=by
 have HW:=J hw;clear hw;have hls:(p++s).length<=8796093022208:=aM;go_enter func165,ntmps165;go_wp2_with fail;refine(Ju g pre post p s w h Y).mono ?_;rintro e B ⟨rfl,U,g1⟩;go_wp2_with fail;refine(Mp g pre post _ _ U Y).mono ?_;rw[HW.out];rintro e w2 ⟨rfl,b2⟩;have F:=U.G b2;have g2:=tO g1 b2;go_wp2_with fail;refine(Xu g pre post _ _ F Y).mono ?_;rintro e w3 ⟨rfl,h3,g3⟩;have g3':=rO g2 g3 (.inl I);generalize p++s=ps at*;clear h U F g1 g2 g3 b2 HW;clear B w2;have hinv:Vx w g pre post ps ps (.slice none 0 0) w3:=⟨[],tw.nil _,ar,h3,g3',by simp[Value.ownBlock],ar,I⟩;have HI:=J hinv;clear hinv h3 g3';go_wp2_with fail;go_loopw[5,6] (fun v q wr=>∃r:List UInt8,q= .string (bs r)/\Vx w g pre post ps r v wr) (fun _ q _=>aat q)
 case atStart=>exact⟨ps,I,HI.out⟩
 case round=>
  clear HI;obtain⟨r,rfl,done,t0,hdl,j0,f0,hob,e1,e2⟩:=hrel;have OB:=J hob;clear hob;have E1:=J e1;have E2:=J e2;clear e1 e2;by_cases hlen:2<=r.length
  ·
   have akO:(2:Int)<=r.length:=Y;go_wp2_with fail;refine(Ba r _).mono ?_;rintro e w4 ⟨rfl,y4,b4⟩;go_wp2_with fail;refine(ad8 _ r _ y4 aL hlen).mono ?_;rintro e w5 ⟨rfl,y5,g5⟩;have t5:tw w5 u5 done:=(t0.G b4).grown g5 y4 K;have j5:ub w5 g pre post []:=(j0.G b4).grown g5 y4 K K;have f5:w.grownBy w5 (some g):=rO (tO f0 b4) g5 (.inr (fun k O=>by injection O with O;subst O;exact f0.size));have aLn:sY (r.take 2)<65536:=yU _ 2 aB;clear t0 j0 f0 b4 g5 y4 y5;clear w4;by_cases hwh:sY (r.take 2)<=r.length-2
   ·
    have hwt:uh r=true:=(zj r).2 ⟨hlen,hwh⟩;have F1:=J (vT r hwt);have hrl:=zk r hwt;have R1:=J (show yC r=r.drop (2+sY (r.take 2))from I);have M1:=J (show KK r=(r.take (2+sY (r.take 2))).drop 2 by rw[List.drop_take];unfold KK;congr 1;omega);have hn1:(sY (r.take 2):Int)<=(r.length:Int)-2:=Y;clear hwt;generalize sY (r.take 2)=n at*;go_wp2_with(at_builtin;go_must(refine SY _ I (.tmp 29) (.tmp 34) 23 I 9 (.string ⟨#[]⟩) 1 16 underlying23 xK I K u5 done.length _ I (World.ownsRow.alloc t5 _) ⟨w5.heap.size,0,none⟩ 1 1 [.string (bs ((r.take (2+n)).drop 2))] I I (vJ _ _ _ _ I) (uA I) K aL Y ?_));intro gg cap w6 aup g6 hat;have hkp:=Wi (World.ownsRow.alloc t5 (.cells #[.string (bs ((r.take (2+n)).drop 2))] 9)) g6;have j6:ub w6 g pre post []:=(j5.wF (fun _ _ _ _ Z=>Z.alloc _)).wF hkp;have f6:w.grownBy w6 (some g):=rO (zB f5 _) g6 (.inr OB.out);have t6:tw w6 (.slice (some ⟨gg,0,none⟩) (done.length+1) cap) (done++[KK r]):=by unfold tw;rw[M1.out];simpa using aup
    have ob6:w.heap.size<=gg:=by
     rcases hat with e|e
     ·exact OB.out _ e
     ·have:=f5.size;omega
    have OB6:=J ob6;have T6:=J t6;clear hkp aup g6 hat OB t5 j5 f5 ob6 t6;go_wp2_with fail;go_roundw
    case rel=>
     refine⟨r.drop (2+n),I,done++[KK r],T6.out,?_,j6,f6,?_,?_,?_⟩
     ·simp;omega
     ·intro k O;have:gg=k:=jo;subst this;exact OB6.out
     ·rw[E1.out,F1.out.1,R1.out];simp
     ·rw[E2.out,F1.out.2,R1.out]
    case measure=>simp[aat];omega
   ·
    have hno:uh r=false:=by exact rA
    have hn1:(r.length:Int)-2<(sY (r.take 2):Int):=Y;exact m8
  ·
   have hno:uh r=false:=by exact rA
   have akO:¬(2:Int)<=r.length:=Y;have t5:=t0;have j5:=j0;have f5:=f0;exact m8
theorem aav(g:Nat)(pre post:List Value)(p s:List UInt8)(w:World)(h:ub w g pre post p)(Z:p.length+s.length<=8796093022208):
  Calls prog 165 #[.pointer (some ⟨g,26,none⟩),.string (bs s)] w (Og g pre post (uc (p++s)) (wD (p++s)) w):=by
 cases hw:uh (p++s)with
 |false=>exact acO g pre post p s w h Y hw
 |true=>exact aau g pre post p s w h Z hw
theorem Oh(s:List UInt8)(w:World)(h:s.length<=65535):Calls prog 149 #[.string (bs s)] w (rW (.tuple #[.string (bs (rP 2 s.length++s)),.int .i64 0]) w):=by
 have h':(s.length:Int)<=65535:=Y;have E:=rL 2 (s.length:Int);go_enter func149,ntmps149;go_wp2_with fail;refine(tK _ _ _).mono ?_;rintro e B ⟨rfl,b1⟩;rw[show hw 2=2 from I];generalize rP 2 (s.length:Int)=p at*;have hp:p.length<=2:=Y;clear E;go_wp2_with fail;go_ret2;exact rW.mk I b1
end Go.Proofs.YtakkipnmpmobbaaGreat
