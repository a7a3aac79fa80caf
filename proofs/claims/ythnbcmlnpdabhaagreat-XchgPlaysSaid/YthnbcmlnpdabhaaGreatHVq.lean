/-
  strings.Clone.
-/
import Derived.Test.YthnbcmlnpdabhaaGreatGAq
import Derived.Lib.UnsafeStr
namespace Go.Proofs.YthnbcmlnpdabhaaGreat
open _root_.Go.Proofs.Tryz
set_option maxHeartbeats 8000000
open Go.RowKit
set_option maxRecDepth 100000
set_option linter.unusedVariables false
set_option linter.unusedSimpArgs false
variable {w' W:World} {j g:Nat} {cs pre post:List Value} {p:List UInt8}
theorem U9(l:List UInt8)(w:World)(apw:l.length<=281474976710656):Calls prog 212 #[.string (bs l)] w (uI (.string (bs l)) w):=by
 by_cases h0:l=[]
 ·subst h0;go_enter func212,ntmps212;go_wp2;go_ret;exact uI.mk J (Below.refl _ _)
 ·
  have ahl:0<l.length:=List.length_pos_iff.2 h0;have aBN:((l.length:Int)==0)=false:=aA;have hmk:=JI l.length apw;have Z:=F.new w 5 (vT (List.replicate l.length 0));have hcp:=Ih _ w.heap.size 0 l.length l.length l _ Z (Nat.le_refl _) dV;rw[show((vT (List.replicate l.length 0)).take 0++vT l++(vT (List.replicate l.length 0)).drop (0+l.length))=vT l by
   rw[List.take_zero,List.nil_append,List.drop_of_length_le dV,List.append_nil]]at hcp
  have z:=Hg Z (vT l);have hUS:=Lib.run_unsafeString_row (P:=prog) ((w.alloc (.cells (vT (List.replicate l.length 0)).toArray 5)).setRow w.heap.size (vT l).toArray) 345 3 9 5 underlying345 Rl w.heap.size (vT l).toArray.size
   (by unfold World.shape?;rw[z]) l h0 dV I
   (fun j x hx=>by
    obtain⟨hj,rfl⟩:=List.getElem?_eq_some_iff.1 hx;have:=z.cell j;rw[DI l j hj]at this;rw[<-this];congr 1;unfold Addr.add;split<;>simp_all)
  generalize hA:(vT (List.replicate l.length 0)).toArray=ul at*;generalize hC:(vT l).toArray=awu at*;clear hA hC Z z h0;go_enter func212,ntmps212;go_wp2;go_ret;exact uI.mk J (Lib.below_freeze (below_setRow ((Below.refl _ w).alloc (Nat.le_refl _) _) (Nat.le_refl _) _) (p:=⟨w.heap.size,0,none⟩) (Nat.le_refl _) _)
theorem Qg(l:List UInt8)(w:World)(apw:l.length<=281474976710656):Calls prog 178 #[.string (bs l)] w (uI (.string (bs l)) w):=by
 go_enter func178,ntmps178;go_wp2_with(go_at_call 212;refine(U9 l _ apw).mono ?_;rintro e w1 ⟨rfl,b1⟩);go_ret;exact uI.mk J b1
def wV(w:World):List (List UInt8)->Option Nat->Prop
 |[],o=>o=none
 |t::rest,o=>∃(g:Nat) (next:Option Nat),o=some g/\t≠[]/\F w g 320 [.string (bs t),.pointer (next.map fun k=>⟨k,0,none⟩)]/\wV w rest next
theorem wV.grown{w:World}(hj:F w j 152 cs)(hg:w.grownBy w' (some j)):∀(ts:List (List UInt8)) (o:Option Nat),wV w ts o->wV w' ts o:=by
 intro ts;induction ts with
 |nil=>intro o h;exact h
 |cons t rest ih=>rintro o ⟨g,next,U,X,h3,h4⟩;refine⟨g,next,U,X,h3.grown hg ?_,ih next h4⟩;rintro e;injection e with e;subst e;unfold F at h3 hj;rw[h3]at hj;injection hj with hj;injection hj with _ ht;exact absurd ht az
theorem wV.set{w:World}(hj:F w j 152 cs)(i:Nat)(u:Value)(ts:List (List UInt8))(o:Option Nat)(h:wV w ts o):wV (w.setCell ⟨j,i,none⟩ u) ts o:=
 wV.grown hj (uS (World.grownBy.refl _ _) i u) ts o h
theorem wV.alloc{w:World}(x:Obj):∀(ts:List (List UInt8)) (o:Option Nat),wV w ts o->wV (w.alloc x) ts o:=by
 intro ts;induction ts with
 |nil=>intro o h;exact h
 |cons t rest ih=>rintro o ⟨g,next,U,X,h3,h4⟩;exact⟨g,next,U,X,h3.alloc x,ih next h4⟩
theorem wV.drew{w:World}:∀(ts:List (List UInt8)) (o:Option Nat),wV w ts o->wV w.drew ts o:=by
 intro ts;induction ts with
 |nil=>intro o h;exact h
 |cons t rest ih=>rintro o ⟨g,next,U,X,h3,h4⟩;exact⟨g,next,U,X,h3.drew,ih next h4⟩
def Fw(ts:List (List UInt8)):List UInt8:=ts.reverse.flatten
theorem Ka(t:List UInt8)(ts:List (List UInt8)):Fw (t::ts)=Fw ts++t:=by simp[Fw]
def JB(pre post:List Value)(a b c d:Value):List Value:=pre++a::b::c::d::post
section
variable {pre post:List Value} {a b c d:Value} (h:pre.length=26)
include h
theorem jb0:(JB pre post a b c d)[26]?=some a:=by unfold JB;rw[List.getElem?_append_right I,h];rfl
theorem YM:(JB pre post a b c d)[27]?=some b:=by unfold JB;rw[List.getElem?_append_right I,h];rfl
theorem jb2:(JB pre post a b c d)[28]?=some c:=by unfold JB;rw[List.getElem?_append_right I,h];rfl
theorem jb3:(JB pre post a b c d)[29]?=some d:=by unfold JB;rw[List.getElem?_append_right I,h];rfl
variable {w:World} {g:Nat} {t:TypeId}
theorem js0(k:F w g t (JB pre post a b c d))(x:Value):F (w.setCell ⟨g,26,none⟩ x) g t (JB pre post x b c d):=by have:=k.set 26 x;unfold JB at this⊢;rwa[List.set_append_right _ _ I,h]at this
theorem js1(k:F w g t (JB pre post a b c d))(x:Value):F (w.setCell ⟨g,27,none⟩ x) g t (JB pre post a x c d):=by have:=k.set 27 x;unfold JB at this⊢;rwa[List.set_append_right _ _ I,h]at this
theorem js2(k:F w g t (JB pre post a b c d))(x:Value):F (w.setCell ⟨g,28,none⟩ x) g t (JB pre post a b x d):=by have:=k.set 28 x;unfold JB at this⊢;rwa[List.set_append_right _ _ I,h]at this
theorem js3(k:F w g t (JB pre post a b c d))(x:Value):F (w.setCell ⟨g,29,none⟩ x) g t (JB pre post a b c x):=by have:=k.set 29 x;unfold JB at this⊢;rwa[List.set_append_right _ _ I,h]at this
end
def xi(w:World)(g:Nat)(pre post:List Value)(p:List UInt8):Prop:=
 ∃(last:Option Nat) (ts:List (List UInt8)) (b0 b1:UInt8),pre.length=26/\F w g 152 (JB pre post (.pointer (last.map fun k=>⟨k,0,none⟩)) (.int .i64 p.length) (.int .u8 (b0.toNat:Int)) (.int .u8 (b1.toNat:Int)))/\
  wV w ts last/\Fw ts=p/\(∀x,p[0]?=some x->b0=x)/\(∀x,p[1]?=some x->b1=x)
def Dn(v:Value)(g:Nat)(pre post:List Value)(p:List UInt8)(w:World)(e:Ending)(w':World):Prop:=e= .returned v/\xi w' g pre post p/\w.grownBy w' (some g)
theorem aaw(g:Nat)(pre post:List Value)(p:List UInt8)(w:World)(h:xi w g pre post p):Calls prog 173 #[.pointer (some ⟨g,26,none⟩),.string (bs [])] w (Dn (.tuple #[]) g pre post (p++[]) w):=by
 go_enter func173,ntmps173;go_wp2;refine bodyPost_ret (results_none J _ _ _) J ?_;exact⟨J,aq,World.grownBy.refl _ _⟩
theorem Qh{w:World}(hpl:pre.length=26){s:List UInt8}{last:Option Nat}{ts:List (List UInt8)}{b0 b1:UInt8}(z:F W g 152 (JB pre post (.pointer (last.map fun k=>⟨k,0,none⟩)) (.int .i64 p.length) (.int .u8 (b0.toNat:Int)) (.int .u8 (b1.toNat:Int))))
  (hc:wV W ts last) (ht:Fw ts=p) (hs:s≠[]) (h0:∀x,(p++s)[0]?=some x->b0=x) (U:∀x,(p++s)[1]?=some x->b1=x) (hg:w.grownBy W (some g)) (n:Int) (hn:n=(p.length:Int)+s.length):
  Dn (.tuple #[]) g pre post (p++s) w (.returned (.tuple #[])) (((W.setCell ⟨g,26,none⟩ (.pointer (some ⟨W.heap.size,0,none⟩))).setCell ⟨g,27,none⟩ (.int .i64 n)).alloc (.cells #[.string (bs s),.pointer (last.map fun k=>⟨k,0,none⟩)] 320)):=by
 subst hn;have hk1:=js1 hpl (js0 hpl z (.pointer (some ⟨W.heap.size,0,none⟩))) (.int .i64 (p.length+s.length));refine⟨J,⟨some W.heap.size,s::ts,b0,b1,hpl,?_,⟨W.heap.size,last,J,hs,?_,?_⟩,?_,h0,U⟩,?_⟩
 ·have:=hk1.alloc (.cells #[.string (bs s),.pointer (last.map fun k=>⟨k,0,none⟩)] 320);simpa using this
 ·exact F.wE _ _ [.string (bs s),.pointer (last.map fun k=>⟨k,0,none⟩)] _ ap
 ·exact wV.alloc _ _ _ (wV.set (js0 hpl z _) 27 _ _ _ (wV.set z 26 _ _ _ hc))
 ·rw[Ka,ht]
 ·exact zN (uS (uS hg 26 _) 27 _) _
theorem aax(g:Nat)(pre post:List Value)(p s:List UInt8)(w:World)(h:xi w g pre post p)(hp:2<=p.length)(hs:s≠[])(Z:p.length+s.length<=281474976710656):
  Calls prog 173 #[.pointer (some ⟨g,26,none⟩),.string (bs s)] w (Dn (.tuple #[]) g pre post (p++s) w):=by
 obtain⟨last,ts,b0,b1,hpl,z,hc,ht,h0,U⟩:=h;have c0:=z.M 26 (jb0 hpl);have c1:=z.M 27 (YM hpl);have f0:=z.frozen 26;have f1:=z.frozen 27;have hse:(s==[])=false:=kC;have hgl:=z.lt;go_enter func173,ntmps173;go_wp2_with fail;refine wp_loop_rounds 1 ?_;rw[rounds_succ];go_wp2_with fail;go_end0;exact Qh hpl z hc ht hs (fun x hx=>h0 x (by rwa[List.getElem?_append_left I]at hx)) (fun x hx=>U x (by rwa[List.getElem?_append_left I]at hx)) (World.grownBy.refl _ _) _ J
theorem aay(g:Nat)(pre post:List Value)(c a:UInt8)(s:List UInt8)(w:World)(h:xi w g pre post [c])(Z:s.length+2<=281474976710656):
  Calls prog 173 #[.pointer (some ⟨g,26,none⟩),.string (bs (a::s))] w (Dn (.tuple #[]) g pre post ([c]++(a::s)) w):=by
 obtain⟨last,ts,b0,b1,hpl,z,hc,ht,h0,U⟩:=h;have c0:=z.M 26 (jb0 hpl);have c1:=z.M 27 (YM hpl);have c3:=z.M 29 (jb3 hpl);have f3:=z.frozen 29;have hgl:=z.lt;rw[show(([c].length:Nat):Int)=1 from J]at c1;go_enter func173,ntmps173;go_wp2_with fail;refine wp_loop_rounds 2 ?_;rw[rounds_succ];go_wp2_with fail;go_region;go_wp2_with fail;obtain⟨W,hW⟩:∃W,W=(w.setCell ⟨g,29,none⟩ (.int .u8 (a.toNat:Int))).drew:=gG;rw[<-hW];have hk1:F W g 152 (JB pre post (.pointer (last.map fun k=>⟨k,0,none⟩)) (.int .i64 ([c].length:Nat)) (.int .u8 (b0.toNat:Int)) (.int .u8 (a.toNat:Int))):=hW▸(js3 hpl z (.int .u8 (a.toNat:Int))).drew;have hc1:wV W ts last:=hW▸wV.drew _ _ (wV.set z 29 _ _ _ hc);have hg1:w.grownBy W (some g):=hW▸yv (uS (World.grownBy.refl _ _) 29 _);clear hW c0 c1 c3 f3 hgl z hc;have c0:=hk1.M 26 (jb0 hpl);have c1:=hk1.M 27 (YM hpl);have f0:=hk1.frozen 26;have f1:=hk1.frozen 27;have hgl:=hk1.lt;rw[show(([c].length:Nat):Int)=1 from J]at c1;rw[rounds_succ];go_wp2_with fail;go_end0;exact Qh hpl (s:=a::s) hk1 hc1 ht ap (fun x hx=>h0 x (by simpa using hx)) (fun x hx=>by simpa using hx) hg1 _ ap
theorem Va(g:Nat)(pre post:List Value)(a:UInt8)(w:World)(h:xi w g pre post []):
  Calls prog 173 #[.pointer (some ⟨g,26,none⟩),.string (bs [a])] w (Dn (.tuple #[]) g pre post ([]++[a]) w):=by
 obtain⟨last,ts,b0,b1,hpl,z,hc,ht,h0,U⟩:=h;have c0:=z.M 26 (jb0 hpl);have c1:=z.M 27 (YM hpl);have c2:=z.M 28 (jb2 hpl);have f2:=z.frozen 28;have hgl:=z.lt;rw[show((([]:List UInt8).length:Nat):Int)=0 from J]at c1;go_enter func173,ntmps173;go_wp2_with fail;refine wp_loop_rounds 2 ?_;rw[rounds_succ];go_wp2_with fail;go_region;go_wp2_with fail;obtain⟨W,hW⟩:∃W,W=(w.setCell ⟨g,28,none⟩ (.int .u8 (a.toNat:Int))).drew:=gG;rw[<-hW];have hk1:F W g 152 (JB pre post (.pointer (last.map fun k=>⟨k,0,none⟩)) (.int .i64 (([]:List UInt8).length:Nat)) (.int .u8 (a.toNat:Int)) (.int .u8 (b1.toNat:Int))):=mn;have hc1:wV W ts last:=mG;have hg1:w.grownBy W (some g):=lF;clear hW c0 c1 c2 f2 hgl z hc;have c0:=hk1.M 26 (jb0 hpl);have c1:=hk1.M 27 (YM hpl);have f0:=hk1.frozen 26;have f1:=hk1.frozen 27;have hgl:=hk1.lt;rw[show((([]:List UInt8).length:Nat):Int)=0 from J]at c1;rw[rounds_succ];go_wp2_with fail;go_end0;exact Qh hpl (s:=[a]) hk1 hc1 ht ap (fun x hx=>by simpa using hx) (fun x hx=>by simp at hx) hg1 _ ap
theorem Vb(g:Nat)(pre post:List Value)(a b:UInt8)(s:List UInt8)(w:World)(h:xi w g pre post [])(Z:s.length+2<=281474976710656):
  Calls prog 173 #[.pointer (some ⟨g,26,none⟩),.string (bs (a::b::s))] w (Dn (.tuple #[]) g pre post ([]++(a::b::s)) w):=by
 obtain⟨last,ts,b0,b1,hpl,z,hc,ht,h0,U⟩:=h;have c0:=z.M 26 (jb0 hpl);have c1:=z.M 27 (YM hpl);have c2:=z.M 28 (jb2 hpl);have f2:=z.frozen 28;have hgl:=z.lt;rw[show((([]:List UInt8).length:Nat):Int)=0 from J]at c1;go_enter func173,ntmps173;go_wp2_with fail;refine wp_loop_rounds 3 ?_;rw[rounds_succ];go_wp2_with fail;go_region;go_wp2_with fail;obtain⟨W,hW⟩:∃W,W=(w.setCell ⟨g,28,none⟩ (.int .u8 (a.toNat:Int))).drew:=gG;rw[<-hW];have hk1:F W g 152 (JB pre post (.pointer (last.map fun k=>⟨k,0,none⟩)) (.int .i64 (([]:List UInt8).length:Nat)) (.int .u8 (a.toNat:Int)) (.int .u8 (b1.toNat:Int))):=mn;have hc1:wV W ts last:=mG;have hg1:w.grownBy W (some g):=lF;clear hW c0 c1 c2 f2 hgl z hc;have c0:=hk1.M 26 (jb0 hpl);have c1:=hk1.M 27 (YM hpl);have f0:=hk1.frozen 26;have f1:=hk1.frozen 27;have hgl:=hk1.lt;have c3:=hk1.M 29 (jb3 hpl);have f3:=hk1.frozen 29;rw[show((([]:List UInt8).length:Nat):Int)=0 from J]at c1;rw[rounds_succ];go_wp2_with fail;go_region;go_wp2_with fail;obtain⟨V,hV⟩:∃V,V=(W.setCell ⟨g,29,none⟩ (.int .u8 (b.toNat:Int))).drew:=gG;rw[<-hV];have hk2:F V g 152 (JB pre post (.pointer (last.map fun k=>⟨k,0,none⟩)) (.int .i64 (([]:List UInt8).length:Nat)) (.int .u8 (a.toNat:Int)) (.int .u8 (b.toNat:Int))):=hV▸(js3 hpl hk1 (.int .u8 (b.toNat:Int))).drew;have hc2:wV V ts last:=hV▸wV.drew _ _ (wV.set hk1 29 _ _ _ hc1);have hg2:w.grownBy V (some g):=hV▸yv (uS hg1 29 _);clear hV c0 c1 c3 f0 f1 f3 hgl hk1 hc1 hg1;have c0:=hk2.M 26 (jb0 hpl);have c1:=hk2.M 27 (YM hpl);have f0:=hk2.frozen 26;have f1:=hk2.frozen 27;have hgl:=hk2.lt;rw[show((([]:List UInt8).length:Nat):Int)=0 from J]at c1;rw[rounds_succ];go_wp2_with fail;go_end0;exact Qh hpl (s:=a::b::s) hk2 hc2 ht ap (fun x hx=>by simpa using hx) (fun x hx=>by simpa using hx) hg2 _ ap
theorem Mv(g:Nat)(pre post:List Value)(p s:List UInt8)(w:World)(h:xi w g pre post p)(Z:p.length+s.length<=281474976710656):
  Calls prog 173 #[.pointer (some ⟨g,26,none⟩),.string (bs s)] w (Dn (.tuple #[]) g pre post (p++s) w):=by
 rcases s with _|⟨a,s⟩
 ·exact aaw g pre post p w h
 ·
  rcases p with _|⟨c,p⟩
  ·
   rcases s with _|⟨b,s⟩
   ·exact Va g pre post a w h
   ·exact Vb g pre post a b s w h aM
  ·
   rcases p with _|⟨d,p⟩
   ·exact aay g pre post c a s w h (by simp at Z;omega)
   ·exact aax g pre post _ _ w h ap ap Z
def wT(p:List UInt8):Bool:=decide (2<=p.length)&&decide (vw (p.take 2)<=p.length-2)
theorem ze(s:List UInt8):wT s=true↔2<=s.length/\vw (s.take 2)<=s.length-2:=by simp[wT]
def IH(s:List UInt8):List UInt8:=(s.drop 2).take (vw (s.take 2))
def AJ(s:List UInt8):List UInt8:=s.drop (2+vw (s.take 2))
def frF:Nat->List UInt8->List (List UInt8)×List UInt8
 |0,s=>([],s)
 |k+1,s=>if wT s then(IH s::(frF k (AJ s)).1,(frF k (AJ s)).2)else([],s)
theorem Ea(s:List UInt8)(h:wT s=true):(AJ s).length+2<=s.length:=by
 have:=(ze s).1 h;simp[AJ];omega
theorem aaA:∀(k j:Nat) (s:List UInt8),s.length<=k->s.length<=j->frF k s=frF j s:=by
 intro k;induction k with
 |zero=>
  intro j s z hj;have hs:s=[]:=ig;subst hs;cases j with
  |zero=>rfl
  |succ j=>simp[frF,wT]
 |succ k ih=>
  intro j s z hj;cases j with
  |zero=>have hs:s=[]:=ig;subst hs;simp[frF,wT]
  |succ j=>
   unfold frF;cases hw:wT s with
   |false=>rfl
   |true=>have:=Ea s hw;rw[ih j (AJ s) I I]
def wl(s:List UInt8):List (List UInt8):=(frF s.length s).1
def yA(s:List UInt8):List UInt8:=(frF s.length s).2
theorem wK(s:List UInt8)(h:wT s=false):wl s=[]/\yA s=s:=by
 unfold wl yA;cases s.length with
 |zero=>exact⟨J,J⟩
 |succ k=>simp[frF,h]
theorem yx(s:List UInt8)(h:wT s=true):wl s=IH s::wl (AJ s)/\yA s=yA (AJ s):=by
 have hl:=Ea s h;obtain⟨k,z⟩:∃k,s.length=k+1:=⟨s.length-1,I⟩;unfold wl yA;rw[z];simp only[frF,h,if_true];rw[aaA k (AJ s).length (AJ s) I (Nat.le_refl _)];exact⟨J,J⟩
theorem X8(a b:List UInt8)(h:wT a=true):wT (a++b)=true/\IH (a++b)=IH a/\AJ (a++b)=AJ a++b:=by
 obtain⟨U,X⟩:=(ze a).1 h;have e:(a++b).take 2=a.take 2:=List.take_append_of_le_length U;refine⟨(ze _).2 ⟨aA,by rw[e];simp;omega⟩,?_,?_⟩
 ·unfold IH;rw[e,List.drop_append_of_le_length U,List.take_append_of_le_length aA]
 ·unfold AJ;rw[e,List.drop_append_of_le_length I]
theorem Vc:∀(n:Nat) (a b:List UInt8),a.length<=n->wl (a++b)=wl a++wl (yA a++b)/\yA (a++b)=yA (yA a++b):=by
 intro n;induction n with
 |zero=>intro a b h;have ha:a=[]:=ig;subst ha;have:=wK [] J;rw[this.1,this.2];simp
 |succ n ih=>
  intro a b h;cases hw:wT a with
  |false=>rw[(wK a hw).1,(wK a hw).2];simp
  |true=>obtain⟨w1,w2,w3⟩:=X8 a b hw;have hl:=Ea a hw;obtain⟨i1,i2⟩:=ih (AJ a) b I;rw[(yx _ w1).1,(yx _ w1).2,(yx a hw).1,(yx a hw).2,w2,w3,i1,i2];simp
theorem aaB:∀(n:Nat) (a:List UInt8),a.length<=n->(yA a).length<=a.length:=by
 intro n;induction n with
 |zero=>intro a h;have ha:a=[]:=ig;subst ha;rw[(wK [] J).2];exact Nat.le_refl _
 |succ n ih=>
  intro a h;cases hw:wT a with
  |false=>rw[(wK a hw).2];exact Nat.le_refl _
  |true=>have hl:=Ea a hw;have:=ih (AJ a) I;rw[(yx a hw).2];omega
theorem OX:∀(n:Nat) (a:List UInt8),a.length<=n->(wl a).length*2+(yA a).length<=a.length:=by
 intro n;induction n with
 |zero=>intro a h;have ha:a=[]:=ig;subst ha;rw[(wK [] J).1,(wK [] J).2];simp
 |succ n ih=>
  intro a h;cases hw:wT a with
  |false=>rw[(wK a hw).1,(wK a hw).2];simp
  |true=>have hl:=Ea a hw;have:=ih (AJ a) I;rw[(yx a hw).1,(yx a hw).2];simp;omega
theorem Vd{A w1:World}(h:al A W)(b:al W w1):al A w1:=h.trans (b.mono h.size)
theorem afb{p q:Prop}(h:p)(f:p->q):p/\q:=⟨h,f h⟩
theorem adl(g:Nat)(rest:List UInt8)(w:World)(h:AR w g rest false)(hl:rest.length<=maxLen)(X:2<=rest.length):
  Calls prog 177 #[.pointer (some ⟨g,0,none⟩),.int .i64 2] w (KR (.int .i64 (vw (rest.take 2))) g (rest.drop 2) false w):=by
 exact qp
theorem Te(g:Nat)(pre post:List Value)(p:List UInt8)(w:World)(h:xi w g pre post p)(hp:p.length<2):Calls prog 174 #[.pointer (some ⟨g,26,none⟩)] w (uI (.bool (wT p)) w):=by
 obtain⟨last,ts,b0,b1,hpl,z,hc,ht,h0,U⟩:=h;have c1:=z.M 27 (YM hpl);have hp':(p.length:Int)<2:=I;have hd:decide ((2:Int)<=p.length)=false:=aA;have hw0:wT p=false:=by simp[wT];omega
 rw[hw0];clear hw0;go_enter func174,ntmps174;go_wp2_with fail;go_quiet(fail);go_wp2_with fail;go_ret;exact uI.mk J (below_drewN (Below.refl _ _) _)
theorem X9(g:Nat)(pre post:List Value)(a b:UInt8)(p:List UInt8)(w:World)(h:xi w g pre post (a::b::p))(hm:p.length<=281474976710656):Calls prog 174 #[.pointer (some ⟨g,26,none⟩)] w (uI (.bool (wT (a::b::p))) w):=by
 obtain⟨last,ts,b0,b1,hpl,z,hc,ht,h0,U⟩:=h;obtain rfl:b0=a:=h0 a J;obtain rfl:b1=b:=U b J;obtain⟨n,hn⟩:∃n:Int,n=((b0::b1::p).length:Nat):=gG;rw[<-hn]at z;have hn2:(2:Int)<=n:=by simp at hn;omega
 have hn3:n<=281474976710658:=by simp at hn;omega
 have HN:=Y hn;have hcv:∀W,al w W->W.cell? ⟨g,27,none⟩=some (.int .i64 n)/\(convert 145 9 (.slice (some ⟨g,28,none⟩) 2 2)).run prog W= .ok (.string (bs [b0,b1])) W:=by
  intro W hW;have hB:=z.G hW z.lt;refine⟨hB.M 27 (YM hpl),run_convert_bytes_back W 145 9 5 ⟨g,28,none⟩ 2 [b0,b1] underlying145 underlying5 underlying9 ?_⟩;intro j hj;have:j=0\/j=1:=by simp at hj;omega
  rcases this with rfl|rfl
  ·exact hB.M 28 (jb2 hpl)
  ·exact hB.M 29 (jb3 hpl)
 have HS:=Y hcv;clear hcv hn z hc ht h0 U;go_enter func174,ntmps174;go_wp2_with fail;go_region_held3(fun w'=>al w w'/\w'.cell? ⟨g,27,none⟩=some (.int .i64 n)/\(convert 145 9 (.slice (some ⟨g,28,none⟩) 2 2)).run prog w'= .ok (.string (bs [b0,b1])) w') ((refine afb ?_ (HS.out _);first|exact(Below.refl _ _).drew|exact Vd (And.left ‹al w _/\_›) b3|exact uq (And.left ‹al w _/\_›) b4 (And.left ‹al w _/\_›).size hg3))
  (first
   |(go_at_call 176;refine(Eg [b0,b1] _).mono ?_;rintro e w3 ⟨rfl,h3,b3⟩;have hg3:=(And.left ‹al w _/\_›).size)
   |(go_at_call 177;refine(adl _ [b0,b1] _ h3 (by simp[maxLen]) ap).mono ?_;rintro e w4 ⟨rfl,h4,b4⟩))
 have ayh:=And.left ‹al w _/\_›;go_wp2_with fail;go_ret;refine uI.mk (z7 ?_) ayh;rw[IntWalk.i64_in _ I];have:=HN.out;simp only[List.length_cons]at this;simp only[wT,List.length_cons,List.take_succ_cons,List.take_zero];rw[Bool.eq_iff_iff];simp only[decide_eq_true_eq,Bool.and_eq_true];constructor
 ·intro hh;refine⟨I,decide_eq_true ?_⟩;omega
 ·rintro⟨_,hh⟩;have:=of_decide_eq_true hh;omega
theorem OY(g:Nat)(pre post:List Value)(p:List UInt8)(w:World)(h:xi w g pre post p)(hm:p.length<=281474976710656):Calls prog 174 #[.pointer (some ⟨g,26,none⟩)] w (uI (.bool (wT p)) w):=by
 rcases p with _|⟨a,p⟩
 ·exact Te g pre post [] w h ap
 ·
  rcases p with _|⟨b,p⟩
  ·exact Te g pre post [a] w h ap
  ·exact X9 g pre post a b p w h (by simp at hm;omega)
def C7(n:Nat)(done:List UInt8):List Value:=vT (List.replicate (n-done.length) 0)++vT done
theorem Qi(n:Nat)(done:List UInt8)(h:done.length<=n):(C7 n done).length=n:=by simp[C7,v9];omega
theorem Ve(n:Nat)(t done:List UInt8)(h:t.length+done.length<=n):
  (C7 n done).take (n-(t.length+done.length))++vT t++(C7 n done).drop (n-(t.length+done.length)+t.length)=C7 n (t++done):=by
 have e1:(C7 n done).take (n-(t.length+done.length))=vT (List.replicate (n-(t.length+done.length)) 0):=by unfold C7;rw[List.take_append_of_le_length aI];simp[vT,List.take_replicate];omega
 have e2:(C7 n done).drop (n-(t.length+done.length)+t.length)=vT done:=by unfold C7;rw[List.drop_append_of_le_length aI,List.drop_of_length_le aI,List.nil_append]
 rw[e1,e2];unfold C7;rw[Bl,List.length_append,List.append_assoc]
theorem wV.C9{w:World}(z:∀g cs,F w g 320 cs->F w' g 320 cs):∀(ts:List (List UInt8)) (o:Option Nat),wV w ts o->wV w' ts o:=by
 intro ts;induction ts with
 |nil=>intro o h;exact h
 |cons t rest ih=>rintro o ⟨g,next,U,X,h3,h4⟩;exact⟨g,next,U,X,z g _ h3,ih next h4⟩
theorem F.Wu{w:World}{g':Nat}{t t':TypeId}{cs':List Value}(h:F w g t cs)(h':F w g' t' cs')(hne:t≠t'):g≠g':=by
 rintro rfl;unfold F at h h';rw[h]at h';injection h' with h';injection h' with _ ht;exact hne ht
def Tf(w:World)(g:Nat)(pre post:List Value)(p:List UInt8)(last:Option Nat)(b0 b1:UInt8)(k:Option Nat)(ts:List (List UInt8))(done:List UInt8)(wr:World):Prop:=
 F wr g 152 (JB pre post (.pointer (last.map fun k=>⟨k,0,none⟩)) (.int .i64 p.length) (.int .u8 (b0.toNat:Int)) (.int .u8 (b1.toNat:Int)))/\wV wr ts k/\Fw ts++done=p/\
  F wr w.heap.size 5 (C7 p.length done)/\al w wr
theorem Ya(g:Nat)(pre post:List Value)(p:List UInt8)(w:World)(h:xi w g pre post p)(hm:p.length<=281474976710656):Calls prog 175 #[.pointer (some ⟨g,26,none⟩)] w (Dn (.string (bs p)) g pre post [] w):=by
 obtain⟨last,ts,b0,b1,hpl,z,hc,ht,h0,U⟩:=h;have c0:=z.M 26 (jb0 hpl);have c1:=z.M 27 (YM hpl);have hgl:=z.lt;have hmk:=JI p.length hm;have hinv:Tf w g pre post p last b0 b1 last ts [] (w.alloc (.cells (vT (List.replicate p.length 0)).toArray 5)):=
  ⟨z.alloc _,wV.alloc _ _ _ hc,by rw[ht,List.append_nil],by
   have:=F.new w 5 (vT (List.replicate p.length 0));simpa[C7,vT]using this,(Below.refl _ _).alloc (Nat.le_refl _) _⟩
 have HI:=Y hinv;clear hinv hc ht h0 U z;go_enter func175,ntmps175;go_wp2_with fail;clear hmk c0 c1;go_loopw[4,5] (fun uG q wr=>∃(k:Option Nat) (ts:List (List UInt8)) (done:List UInt8) (o:Option Addr),o=k.map (fun k=>⟨k,0,none⟩)/\uG= .int .i64 ((p.length-done.length:Nat):Int)/\q= .pointer o/\Tf w g pre post p last b0 b1 k ts done wr)
  (fun uG _ _=>(intOf uG).toNat)
 case atStart=>exact⟨last,ts,[],_,J,ap,J,HI.out⟩
 case round=>
  clear HI;obtain⟨k,ts,done,o,ho,rfl,rfl,q0,q1,q2,q3,q4⟩:=hrel;rcases ts with _|⟨t,rest⟩
  ·
   obtain rfl:k=none:=q1;obtain rfl:o=none:=ho;have hd:done=p:=by simpa[Fw]using q2
   subst hd;have c0:=q0.M 26 (jb0 hpl);have c1:=q0.M 27 (YM hpl);have c2:=q0.M 28 (jb2 hpl);have c3:=q0.M 29 (jb3 hpl);have f0:=q0.frozen 26;have f1:=q0.frozen 27;have f2:=q0.frozen 28;have f3:=q0.frozen 29;have hg4:wr.grownBy ((((wr.setCell ⟨g,26,none⟩ (.pointer none)).setCell ⟨g,27,none⟩ (.int .i64 0)).setCell ⟨g,28,none⟩ (.int .u8 0)).setCell ⟨g,29,none⟩ (.int .u8 0)) (some g):=uS (uS (uS (uS (World.grownBy.refl _ _) 26 _) 27 _) 28 _) 29 _;have hk4:F ((((wr.setCell ⟨g,26,none⟩ (.pointer none)).setCell ⟨g,27,none⟩ (.int .i64 0)).setCell ⟨g,28,none⟩ (.int .u8 0)).setCell ⟨g,29,none⟩ (.int .u8 0)) g 152 (JB pre post (.pointer none) (.int .i64 0) (.int .u8 0) (.int .u8 0)):=js3 hpl (js2 hpl (js1 hpl (js0 hpl q0 (.pointer none)) (.int .i64 0)) (.int .u8 0)) (.int .u8 0);have hcv:=KZ _ w.heap.size done.length done _ (q3.grown hg4 aA) (by unfold C7;rw[Nat.sub_self,List.take_of_length_le (by simp[vT])];rfl);have HK:=Y hk4;have HG:=Y hg4;clear hk4 hg4;go_wp2_with fail;go_ret;refine⟨J,⟨none,[],0,0,hpl,HK.out,J,J,ap,ap⟩,?_⟩;exact uC (uM q4 (some g)) HG.out (.inl J)
  ·
   obtain⟨kk,next,rfl,r1,r2,r3⟩:=q1;obtain rfl:o=some ⟨kk,0,none⟩:=ho;obtain⟨o2,ho2⟩:∃o2:Option Addr,o2=next.map fun k=>⟨k,0,none⟩:=gG
   rw[<-ho2]at r2;have HO:=Y ho2;clear ho2;have c0:=r2.M 0 J;have c1:=r2.M 1 J;rw[Ka]at q2;have hlen:(Fw rest).length+t.length+done.length=p.length:=by rw[<-q2];simp;omega
   have ahl:0<t.length:=List.length_pos_iff.2 r1;have hl1:t.length+done.length<=p.length:=I;obtain⟨m,hm1⟩:∃m,m=p.length-(t.length+done.length):=gG;rw[show p.length-done.length=m+t.length by omega];have hfl:=Qi p.length done I;have hcp:=Ih wr.drew w.heap.size m (p.length-m) (p.length-m) t (C7 p.length done) q3.drew I I;have hfc:=Ve p.length t done hl1;rw[<-hm1]at hfc;rw[hfc]at hcp;have hmp:m<=p.length:=I;have hne:¬p.length=m:=I;have Q2:=Y q2;have HM:=Y hm1;clear hfc hfl q2 hlen hm1;generalize hF:C7 p.length (t++done)=agH at*;have HF:=Y hF;clear hF;go_wp2_with fail;go_region;obtain⟨W,hW⟩:∃W,W=wr.drew.setRow w.heap.size agH.toArray:=gG;rw[<-hW];have akw:∀j t cs,t≠5->F wr j t cs->F W j t cs:=fun j t cs hne Z=>hW▸Ur Z.drew _ (Z.Wu q3 hne)
   have s0:=akw _ _ _ az q0;have s2:=akw _ _ _ az r2;have s3:=wV.C9 (fun j cs Z=>akw j _ cs az Z) _ _ r3;have s4:F W w.heap.size 5 agH:=hW▸Hg q3.drew agH;have s5:al w W:=hW▸below_setRow q4.drew (Nat.le_refl _) _;clear hW akw hcp q0 q3 q4 r2 r3 c0 c1;have c1:=s2.M 1 J;go_wp2_with fail;go_roundw
   case rel=>refine⟨next,rest,t++done,o2,HO.out,?_,J,s0,s3,by rw[<-List.append_assoc];exact Q2.out,by rw[HF.out];exact s4,s5⟩;have:=HM.out;rw[List.length_append,this]
   case measure=>simp[intOf];omega
theorem xi.C9{w:World}(z:∀j t cs,t≠9->F w j t cs->F w' j t cs)(h:xi w g pre post p):xi w' g pre post p:=by
 obtain⟨last,ts,b0,b1,hpl,Z,hc,r⟩:=h;exact⟨last,ts,b0,b1,hpl,z _ _ _ az Z,wV.C9 (fun j cs Z=>z j _ cs az Z) _ _ hc,r⟩
theorem xi.G{w:World}(h:xi w g pre post p)(Z:al w w'):xi w' g pre post p:=
 h.C9 fun _ _ _ _ hj=>hj.G Z hj.lt
theorem xi.grown{w:World}{k:Nat}(h:xi w g pre post p)(hg:w.grownBy w' (some k)){t:TypeId}(z:F w k t cs)(U:t≠152)(X:t≠320):xi w' g pre post p:=by
 obtain⟨last,ts,b0,b1,hpl,Z,hc,r⟩:=h;refine⟨last,ts,b0,b1,hpl,Z.grown hg ?_,wV.C9 (fun j cs hj=>hj.grown hg ?_) _ _ hc,r⟩
 ·intro e;injection e with e;exact Z.Wu z (Ne.symm U) e
 ·intro e;injection e with e;exact hj.Wu z (Ne.symm X) e
def Qj(g:Nat)(pre post:List Value)(fr:List (List UInt8))(rest:List UInt8)(w:World)(e:Ending)(w':World):Prop:=∃v,e= .returned v/\wO w' v fr/\xi w' g pre post rest/\w.grownBy w' (some g)
def aaC:Value->Nat
 | .string s=>s.size
 |_=>0
theorem acm(g:Nat)(pre post:List Value)(p s:List UInt8)(w:World)(h:xi w g pre post p)(Z:p.length+s.length<=281474976710656)(hw:wT (p++s)=false):
  Calls prog 118 #[.pointer (some ⟨g,26,none⟩),.string (bs s)] w (Qj g pre post (wl (p++s)) (yA (p++s)) w):=by
 rw[(wK _ hw).1,(wK _ hw).2];have HW:=Y hw;clear hw;go_enter func118,ntmps118;go_wp2_with fail;refine(Mv g pre post p s w h Z).mono ?_;rintro e w1 ⟨rfl,U,g1⟩;go_wp2_with fail;refine(OY g pre post _ _ U aM).mono ?_;rw[HW.out];rintro e w2 ⟨rfl,b2⟩;go_wp2_with fail;go_ret;exact⟨_,J,wO.nil _,U.G b2,vR g1 b2⟩
def Wv(w:World)(g:Nat)(pre post:List Value)(s:List UInt8)(r:List UInt8)(v:Value)(wr:World):Prop:=
 ∃done,wO wr v done/\done.length+r.length<=s.length/\xi wr g pre post []/\w.grownBy wr (some g)/\(∀k,v.ownBlock=some k->w.heap.size<=k)/\wl s=done++wl r/\yA s=yA r
theorem aaD(g:Nat)(pre post:List Value)(p s:List UInt8)(w:World)(h:xi w g pre post p)(Z:p.length+s.length<=8796093022208)(hw:wT (p++s)=true):
  Calls prog 118 #[.pointer (some ⟨g,26,none⟩),.string (bs s)] w (Qj g pre post (wl (p++s)) (yA (p++s)) w):=by
 have HW:=Y hw;clear hw;have hls:(p++s).length<=8796093022208:=aM;go_enter func118,ntmps118;go_wp2_with fail;refine(Mv g pre post p s w h I).mono ?_;rintro e w1 ⟨rfl,U,g1⟩;go_wp2_with fail;refine(OY g pre post _ _ U I).mono ?_;rw[HW.out];rintro e w2 ⟨rfl,b2⟩;have X:=U.G b2;have g2:=vR g1 b2;go_wp2_with fail;refine(Ya g pre post _ _ X I).mono ?_;rintro e w3 ⟨rfl,h3,g3⟩;have g3':=uC g2 g3 (.inl J);generalize p++s=ps at*;clear h U X g1 g2 g3 b2 HW;clear w1 w2;have hinv:Wv w g pre post ps ps (.slice none 0 0) w3:=⟨[],wO.nil _,ap,h3,g3',by simp[Value.ownBlock],ap,J⟩;have HI:=Y hinv;clear hinv h3 g3';go_wp2_with fail;go_loopw[5,6] (fun v q wr=>∃r:List UInt8,q= .string (bs r)/\Wv w g pre post ps r v wr) (fun _ q _=>aaC q)
 case atStart=>exact⟨ps,J,HI.out⟩
 case round=>
  clear HI;obtain⟨r,rfl,done,t0,hdl,j0,f0,hob,e1,e2⟩:=hrel;have OB:=Y hob;clear hob;have E1:=Y e1;have E2:=Y e2;clear e1 e2;by_cases hlen:2<=r.length
  ·
   have aio:(2:Int)<=r.length:=I;go_wp2_with fail;refine(Eg r _).mono ?_;rintro e w4 ⟨rfl,y4,b4⟩;go_wp2_with fail;refine(adl _ r _ y4 aK hlen).mono ?_;rintro e w5 ⟨rfl,y5,g5⟩;have t5:wO w5 u5 done:=(t0.G b4).grown g5 y4 az;have j5:xi w5 g pre post []:=(j0.G b4).grown g5 y4 az az;have f5:w.grownBy w5 (some g):=uC (vR f0 b4) g5 (.inr (fun k z=>by injection z with z;subst z;exact f0.size));have aGd:vw (r.take 2)<65536:=Bh _ 2 aA;clear t0 j0 f0 b4 g5 y4 y5;clear w4;by_cases hwh:vw (r.take 2)<=r.length-2
   ·
    have hwt:wT r=true:=(ze r).2 ⟨hlen,hwh⟩;have F1:=Y (yx r hwt);have R1:=Y (show AJ r=r.drop (2+vw (r.take 2))from J);have M1:=Y (show IH r=(r.take (2+vw (r.take 2))).drop 2 by rw[List.drop_take];unfold IH;congr 1;omega);have hn1:(vw (r.take 2):Int)<=(r.length:Int)-2:=I;clear hwt;generalize vw (r.take 2)=n at*;go_wp2_with(at_builtin;go_must(refine Hf _ J (.tmp 29) (.tmp 34) 25 J 9 (.string ⟨#[]⟩) 1 16 underlying25 Ei J az u5 done.length _ J (World.ownsRow.alloc t5 _) ⟨w5.heap.size,0,none⟩ 1 1 [.string (bs ((r.take (2+n)).drop 2))] J J (Cg _ _ _ _ J) (zO J) az aK I ?_));intro gg cap w6 alE g6 hat;have hkp:=WX (World.ownsRow.alloc t5 (.cells #[.string (bs ((r.take (2+n)).drop 2))] 9)) g6;have j6:xi w6 g pre post []:=(j5.C9 (fun _ _ _ _ Z=>Z.alloc _)).C9 hkp;have f6:w.grownBy w6 (some g):=uC (zN f5 _) g6 (.inr OB.out);have t6:wO w6 (.slice (some ⟨gg,0,none⟩) (done.length+1) cap) (done++[IH r]):=by unfold wO;rw[M1.out];simpa using alE
    have ob6:w.heap.size<=gg:=by
     rcases hat with e|e
     ·exact OB.out _ e
     ·have:=f5.size;omega
    have OB6:=Y ob6;have T6:=Y t6;clear hkp alE g6 hat OB t5 j5 f5 ob6 t6;go_wp2_with fail;go_roundw
    case rel=>
     refine⟨r.drop (2+n),J,done++[IH r],T6.out,?_,j6,f6,?_,?_,?_⟩
     ·simp;omega
     ·intro k z;have:gg=k:=iN;subst this;exact OB6.out
     ·rw[E1.out,F1.out.1,R1.out];simp
     ·rw[E2.out,F1.out.2,R1.out]
    case measure=>simp[aaC];omega
   ·
    have hno:wT r=false:=by exact uk
    have hn1:(r.length:Int)-2<(vw (r.take 2):Int):=I;exact pM
  ·
   have hno:wT r=false:=by exact uk
   have aio:¬(2:Int)<=r.length:=I;have t5:=t0;have j5:=j0;have f5:=f0;exact pM
theorem aaE(g:Nat)(pre post:List Value)(p s:List UInt8)(w:World)(h:xi w g pre post p)(Z:p.length+s.length<=8796093022208):
  Calls prog 118 #[.pointer (some ⟨g,26,none⟩),.string (bs s)] w (Qj g pre post (wl (p++s)) (yA (p++s)) w):=by
 cases hw:wT (p++s)with
 |false=>exact acm g pre post p s w h I hw
 |true=>exact aaD g pre post p s w h Z hw
theorem Qk(s:List UInt8)(w:World)(h:s.length<=65535):Calls prog 75 #[.string (bs s)] w (uI (.tuple #[.string (bs (uA 2 s.length++s)),.int .i64 0]) w):=by
 have hl:=uy 2 (s.length:Int);go_enter func75,ntmps75;go_wp2_with fail;refine(wQ _ _ _).mono ?_;rintro e w1 ⟨rfl,b1⟩;rw[show hw 2=2 from J];generalize uA 2 (s.length:Int)=p at*;have hp:p.length<=2:=I;clear hl;go_wp2_with fail;go_ret2;exact uI.mk J b1
def adm(s:List UInt8)(w:World)(e:Ending)(w':World):Prop:=∃v,e= .returned (.tuple #[v,.int .i64 ((s.length-(yA s).length:Nat):Int)])/\wO w' v (wl s)/\al w w'
def adn(w:World)(s:List UInt8)(k:Nat)(v:Value)(wr:World):Prop:=
 ∃done,k<=s.length/\wO wr v done/\done.length<=k/\al w wr/\(∀k,v.ownBlock=some k->w.heap.size<=k)/\wl s=done++wl (s.drop k)/\yA s=yA (s.drop k)
theorem aea(s:List UInt8)(k n:Nat):((s.drop k).drop 2).take n=(s.take (k+2+n)).drop (k+2):=by
 rw[List.drop_drop,List.drop_take];congr 1;omega
theorem Vf(s:List UInt8)(w:World)(Z:s.length<=8796093022208):Calls prog 19 #[.string (bs s)] w (adm s w):=by
 have HI:=Y (show adn w s 0 (.slice none 0 0) w from⟨[],Nat.zero_le _,wO.nil _,Nat.le_refl _,Below.refl _ _,by simp[Value.ownBlock],ap,ap⟩);go_enter func19,ntmps19;go_wp2_with fail;go_loopw[4,5] (fun v i wr=>∃k:Nat,i= .int .i64 k/\adn w s k v wr) (fun _ i _=>s.length+2-(intOf i).toNat)
 case atStart=>exact⟨0,J,HI.out⟩
 case round=>
  clear HI;obtain⟨k,rfl,done,z,t0,hdl,b0,hob,e1,e2⟩:=hrel;have E1:=Y e1;have E2:=Y e2;have OB:=Y hob;clear e1 e2 hob;by_cases hlen:k+2<=s.length
  ·
   have aio:(k:Int)+2<=s.length:=I;go_wp2_with fail;refine(yw _ _ aA).mono ?_;rintro e w' ⟨rfl,rfl⟩;have hnn:vw (((s.take (k+2)).drop k))=vw ((s.drop k).take 2):=by rw[List.drop_take];congr 2;omega
   have aB:vw ((s.take (k+2)).drop k)<65536:=Bh _ 2 aA;have NN:=Y hnn;clear hnn;have hrl:(s.drop k).length=s.length-k:=ap;by_cases hwh:k+2+vw ((s.take (k+2)).drop k)<=s.length
   ·
    have hwt:wT (s.drop k)=true:=(ze _).2 ⟨I,by rw[<-NN.out];omega⟩;have F1:=Y (yx _ hwt);have R1:=Y (show AJ (s.drop k)=s.drop (k+2+vw ((s.take (k+2)).drop k))by unfold AJ;rw[<-NN.out,List.drop_drop];congr 1;omega);have M1:=Y (show IH (s.drop k)=(s.take (k+2+vw ((s.take (k+2)).drop k))).drop (k+2)by
     unfold IH;rw[<-NN.out];exact aea s k _)
    clear hwt hrl;have axw:(k:Int)+2+vw ((s.take (k+2)).drop k)<=s.length:=I;generalize vw ((s.take (k+2)).drop k)=n at*;go_wp2_with(at_builtin;go_must(refine Hf _ J (.tmp 25) (.tmp 34) 25 J 9 (.string ⟨#[]⟩) 1 16 underlying25 Ei J az u4 done.length _ J (World.ownsRow.alloc t0 _) ⟨wr.heap.size,0,none⟩ 1 1 [.string (bs ((s.take (k+2+n)).drop (k+2)))] J J (Cg _ _ _ _ J) (zO J) az aK I ?_));intro gg cap w6 alE g6 hat;have b6:al w w6:=(b0.alloc b0.size _).grown g6 (by have:=b0.size;simp;omega) OB.out;have T6:=Y (show wO w6 (.slice (some ⟨gg,0,none⟩) (done.length+1) cap) (done++[IH (s.drop k)])by
     unfold wO;rw[M1.out];simpa using alE)
    have OB6:=Y (show w.heap.size<=gg by
     rcases hat with e|e
     ·exact OB.out _ e
     ·
      have:=b0.size;omega)
    clear alE g6 hat OB t0 b0;go_wp2_with fail;go_roundw
    case rel=>
     refine⟨k+2+n,gp,done++[IH (s.drop k)],I,T6.out,aA,b6,?_,?_,?_⟩
     ·
      intro j hj;have:gg=j:=by simpa[Value.ownBlock]using hj
      subst this;exact OB6.out
     ·rw[E1.out,F1.out.1,R1.out];simp
     ·rw[E2.out,F1.out.2,R1.out]
    case measure=>simp[intOf];omega
   ·
    have hno:wT (s.drop k)=false:=by rw[<-Bool.not_eq_true,ze,<-NN.out];omega
    have FN:=Y (wK _ hno);clear hno;have axw:(s.length:Int)<(k:Int)+2+vw ((s.take (k+2)).drop k):=I;generalize vw ((s.take (k+2)).drop k)=n at*;exact rn
  ·
   have hno:wT (s.drop k)=false:=by rw[<-Bool.not_eq_true,ze];simp;omega
   have FN:=Y (wK _ hno);clear hno;have aio:(s.length:Int)<(k:Int)+2:=I;exact rn
end Go.Proofs.YthnbcmlnpdabhaaGreat
