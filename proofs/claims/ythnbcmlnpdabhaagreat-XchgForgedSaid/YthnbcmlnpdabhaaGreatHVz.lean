/-
  strings.Clone.
-/
import Derived.Test.YthnbcmlnpdabhaaGreatGAz
import Derived.Lib.UnsafeStr
namespace Go.Proofs.YthnbcmlnpdabhaaGreat
open _root_.Go.Proofs.Tryz
set_option maxHeartbeats 8000000
open Go.RowKit
set_option maxRecDepth 100000
set_option linter.unusedVariables false
set_option linter.unusedSimpArgs false
variable {w' W:World} {j g:Nat} {cs pre post:List Value} {p:List UInt8}
theorem Ug(l:List UInt8)(w:World)(aoD:l.length<=281474976710656):Calls prog 212 #[.string (bs l)] w (uf (.string (bs l)) w):=by
 by_cases h0:l=[]
 ·subst h0;go_enter func212,ntmps212;go_wp2;go_ret;exact uf.mk J (Below.refl _ _)
 ·
  have agE:0<l.length:=List.length_pos_iff.2 h0;have aAD:((l.length:Int)==0)=false:=az;have hmk:=Jf l.length aoD;have F:=Z.new w 5 (vl (List.replicate l.length 0));have hcp:=Ha _ w.heap.size 0 l.length l.length l _ F (Nat.le_refl _) dU;rw[show((vl (List.replicate l.length 0)).take 0++vl l++(vl (List.replicate l.length 0)).drop (0+l.length))=vl l by
   rw[List.take_zero,List.nil_append,List.drop_of_length_le dU,List.append_nil]]at hcp
  have O:=Gt F (vl l);have hUS:=Lib.run_unsafeString_row (P:=prog) ((w.alloc (.cells (vl (List.replicate l.length 0)).toArray 5)).setRow w.heap.size (vl l).toArray) 345 3 9 5 underlying345 Qg w.heap.size (vl l).toArray.size
   (by unfold World.shape?;rw[O]) l h0 dU I
   (fun j x hx=>by
    obtain⟨hj,rfl⟩:=List.getElem?_eq_some_iff.1 hx;have:=O.cell j;rw[C9 l j hj]at this;rw[<-this];congr 1;unfold Addr.add;split<;>simp_all)
  generalize hA:(vl (List.replicate l.length 0)).toArray=h2 at*;generalize hC:(vl l).toArray=avw at*;clear hA hC F O h0;go_enter func212,ntmps212;go_wp2;go_ret;exact uf.mk J (Lib.below_freeze (below_setRow ((Below.refl _ w).alloc (Nat.le_refl _) _) (Nat.le_refl _) _) (p:=⟨w.heap.size,0,none⟩) (Nat.le_refl _) _)
theorem Py(l:List UInt8)(w:World)(aoD:l.length<=281474976710656):Calls prog 178 #[.string (bs l)] w (uf (.string (bs l)) w):=by
 go_enter func178,ntmps178;go_wp2_with(go_at_call 212;refine(Ug l _ aoD).mono ?_;rintro e w1 ⟨rfl,b1⟩);go_ret;exact uf.mk J b1
def wu(w:World):List (List UInt8)->Option Nat->Prop
 |[],o=>o=none
 |t::rest,o=>∃(g:Nat) (next:Option Nat),o=some g/\t≠[]/\Z w g 320 [.string (bs t),.pointer (next.map fun k=>⟨k,0,none⟩)]/\wu w rest next
theorem wu.grown{w:World}(hj:Z w j 152 cs)(hg:w.grownBy w' (some j)):∀(ts:List (List UInt8)) (o:Option Nat),wu w ts o->wu w' ts o:=by
 intro ts;induction ts with
 |nil=>intro o h;exact h
 |cons t rest ih=>rintro o ⟨g,next,U,X,h3,h4⟩;refine⟨g,next,U,X,h3.grown hg ?_,ih next h4⟩;rintro e;injection e with e;subst e;unfold Z at h3 hj;rw[h3]at hj;injection hj with hj;injection hj with _ ht;exact absurd ht ax
theorem wu.set{w:World}(hj:Z w j 152 cs)(i:Nat)(u:Value)(ts:List (List UInt8))(o:Option Nat)(h:wu w ts o):wu (w.setCell ⟨j,i,none⟩ u) ts o:=
 wu.grown hj (uq (World.grownBy.refl _ _) i u) ts o h
theorem wu.alloc{w:World}(x:Obj):∀(ts:List (List UInt8)) (o:Option Nat),wu w ts o->wu (w.alloc x) ts o:=by
 intro ts;induction ts with
 |nil=>intro o h;exact h
 |cons t rest ih=>rintro o ⟨g,next,U,X,h3,h4⟩;exact⟨g,next,U,X,h3.alloc x,ih next h4⟩
theorem wu.drew{w:World}:∀(ts:List (List UInt8)) (o:Option Nat),wu w ts o->wu w.drew ts o:=by
 intro ts;induction ts with
 |nil=>intro o h;exact h
 |cons t rest ih=>rintro o ⟨g,next,U,X,h3,h4⟩;exact⟨g,next,U,X,h3.drew,ih next h4⟩
def EK(ts:List (List UInt8)):List UInt8:=ts.reverse.flatten
theorem Jx(t:List UInt8)(ts:List (List UInt8)):EK (t::ts)=EK ts++t:=by simp[EK]
def JB(pre post:List Value)(a b c d:Value):List Value:=pre++a::b::c::d::post
section
variable {pre post:List Value} {a b c d:Value} (h:pre.length=26)
include h
theorem jb0:(JB pre post a b c d)[26]?=some a:=by unfold JB;rw[List.getElem?_append_right I,h];rfl
theorem XT:(JB pre post a b c d)[27]?=some b:=by unfold JB;rw[List.getElem?_append_right I,h];rfl
theorem jb2:(JB pre post a b c d)[28]?=some c:=by unfold JB;rw[List.getElem?_append_right I,h];rfl
theorem jb3:(JB pre post a b c d)[29]?=some d:=by unfold JB;rw[List.getElem?_append_right I,h];rfl
variable {w:World} {g:Nat} {t:TypeId}
theorem js0(k:Z w g t (JB pre post a b c d))(x:Value):Z (w.setCell ⟨g,26,none⟩ x) g t (JB pre post x b c d):=by have:=k.set 26 x;unfold JB at this⊢;rwa[List.set_append_right _ _ I,h]at this
theorem js1(k:Z w g t (JB pre post a b c d))(x:Value):Z (w.setCell ⟨g,27,none⟩ x) g t (JB pre post a x c d):=by have:=k.set 27 x;unfold JB at this⊢;rwa[List.set_append_right _ _ I,h]at this
theorem js2(k:Z w g t (JB pre post a b c d))(x:Value):Z (w.setCell ⟨g,28,none⟩ x) g t (JB pre post a b x d):=by have:=k.set 28 x;unfold JB at this⊢;rwa[List.set_append_right _ _ I,h]at this
theorem js3(k:Z w g t (JB pre post a b c d))(x:Value):Z (w.setCell ⟨g,29,none⟩ x) g t (JB pre post a b c x):=by have:=k.set 29 x;unfold JB at this⊢;rwa[List.set_append_right _ _ I,h]at this
end
def wI(w:World)(g:Nat)(pre post:List Value)(p:List UInt8):Prop:=
 ∃(last:Option Nat) (ts:List (List UInt8)) (b0 b1:UInt8),pre.length=26/\Z w g 152 (JB pre post (.pointer (last.map fun k=>⟨k,0,none⟩)) (.int .i64 p.length) (.int .u8 (b0.toNat:Int)) (.int .u8 (b1.toNat:Int)))/\
  wu w ts last/\EK ts=p/\(∀x,p[0]?=some x->b0=x)/\(∀x,p[1]?=some x->b1=x)
def Cx(v:Value)(g:Nat)(pre post:List Value)(p:List UInt8)(w:World)(e:Ending)(w':World):Prop:=e= .returned v/\wI w' g pre post p/\w.grownBy w' (some g)
theorem ZF(g:Nat)(pre post:List Value)(p:List UInt8)(w:World)(h:wI w g pre post p):Calls prog 173 #[.pointer (some ⟨g,26,none⟩),.string (bs [])] w (Cx (.tuple #[]) g pre post (p++[]) w):=by
 go_enter func173,ntmps173;go_wp2;refine bodyPost_ret (results_none J _ _ _) J ?_;exact⟨J,aq,World.grownBy.refl _ _⟩
theorem Pz{w:World}(hpl:pre.length=26){s:List UInt8}{last:Option Nat}{ts:List (List UInt8)}{b0 b1:UInt8}(O:Z W g 152 (JB pre post (.pointer (last.map fun k=>⟨k,0,none⟩)) (.int .i64 p.length) (.int .u8 (b0.toNat:Int)) (.int .u8 (b1.toNat:Int))))
  (hc:wu W ts last) (ht:EK ts=p) (hs:s≠[]) (h0:∀x,(p++s)[0]?=some x->b0=x) (U:∀x,(p++s)[1]?=some x->b1=x) (hg:w.grownBy W (some g)) (n:Int) (hn:n=(p.length:Int)+s.length):
  Cx (.tuple #[]) g pre post (p++s) w (.returned (.tuple #[])) (((W.setCell ⟨g,26,none⟩ (.pointer (some ⟨W.heap.size,0,none⟩))).setCell ⟨g,27,none⟩ (.int .i64 n)).alloc (.cells #[.string (bs s),.pointer (last.map fun k=>⟨k,0,none⟩)] 320)):=by
 subst hn;have hk1:=js1 hpl (js0 hpl O (.pointer (some ⟨W.heap.size,0,none⟩))) (.int .i64 (p.length+s.length));refine⟨J,⟨some W.heap.size,s::ts,b0,b1,hpl,?_,⟨W.heap.size,last,J,hs,?_,?_⟩,?_,h0,U⟩,?_⟩
 ·have:=hk1.alloc (.cells #[.string (bs s),.pointer (last.map fun k=>⟨k,0,none⟩)] 320);simpa using this
 ·exact Z.vP _ _ [.string (bs s),.pointer (last.map fun k=>⟨k,0,none⟩)] _ ap
 ·exact wu.alloc _ _ _ (wu.set (js0 hpl O _) 27 _ _ _ (wu.set O 26 _ _ _ hc))
 ·rw[Jx,ht]
 ·exact zk (uq (uq hg 26 _) 27 _) _
theorem ZG(g:Nat)(pre post:List Value)(p s:List UInt8)(w:World)(h:wI w g pre post p)(hp:2<=p.length)(hs:s≠[])(F:p.length+s.length<=281474976710656):
  Calls prog 173 #[.pointer (some ⟨g,26,none⟩),.string (bs s)] w (Cx (.tuple #[]) g pre post (p++s) w):=by
 obtain⟨last,ts,b0,b1,hpl,O,hc,ht,h0,U⟩:=h;have c0:=O.K 26 (jb0 hpl);have c1:=O.K 27 (XT hpl);have f0:=O.frozen 26;have f1:=O.frozen 27;have hse:(s==[])=false:=ki;have hgl:=O.lt;go_enter func173,ntmps173;go_wp2_with fail;refine wp_loop_rounds 1 ?_;rw[rounds_succ];go_wp2_with fail;go_end0;exact Pz hpl O hc ht hs (fun x hx=>h0 x (by rwa[List.getElem?_append_left I]at hx)) (fun x hx=>U x (by rwa[List.getElem?_append_left I]at hx)) (World.grownBy.refl _ _) _ J
theorem ZH(g:Nat)(pre post:List Value)(c a:UInt8)(s:List UInt8)(w:World)(h:wI w g pre post [c])(F:s.length+2<=281474976710656):
  Calls prog 173 #[.pointer (some ⟨g,26,none⟩),.string (bs (a::s))] w (Cx (.tuple #[]) g pre post ([c]++(a::s)) w):=by
 obtain⟨last,ts,b0,b1,hpl,O,hc,ht,h0,U⟩:=h;have c0:=O.K 26 (jb0 hpl);have c1:=O.K 27 (XT hpl);have c3:=O.K 29 (jb3 hpl);have f3:=O.frozen 29;have hgl:=O.lt;rw[show(([c].length:Nat):Int)=1 from J]at c1;go_enter func173,ntmps173;go_wp2_with fail;refine wp_loop_rounds 2 ?_;rw[rounds_succ];go_wp2_with fail;go_region;go_wp2_with fail;obtain⟨W,hW⟩:∃W,W=(w.setCell ⟨g,29,none⟩ (.int .u8 (a.toNat:Int))).drew:=gp;rw[<-hW];have hk1:Z W g 152 (JB pre post (.pointer (last.map fun k=>⟨k,0,none⟩)) (.int .i64 ([c].length:Nat)) (.int .u8 (b0.toNat:Int)) (.int .u8 (a.toNat:Int))):=hW▸(js3 hpl O (.int .u8 (a.toNat:Int))).drew;have hc1:wu W ts last:=hW▸wu.drew _ _ (wu.set O 29 _ _ _ hc);have hg1:w.grownBy W (some g):=hW▸xV (uq (World.grownBy.refl _ _) 29 _);clear hW c0 c1 c3 f3 hgl O hc;have c0:=hk1.K 26 (jb0 hpl);have c1:=hk1.K 27 (XT hpl);have f0:=hk1.frozen 26;have f1:=hk1.frozen 27;have hgl:=hk1.lt;rw[show(([c].length:Nat):Int)=1 from J]at c1;rw[rounds_succ];go_wp2_with fail;go_end0;exact Pz hpl (s:=a::s) hk1 hc1 ht ap (fun x hx=>h0 x (by simpa using hx)) (fun x hx=>by simpa using hx) hg1 _ ap
theorem Uh(g:Nat)(pre post:List Value)(a:UInt8)(w:World)(h:wI w g pre post []):
  Calls prog 173 #[.pointer (some ⟨g,26,none⟩),.string (bs [a])] w (Cx (.tuple #[]) g pre post ([]++[a]) w):=by
 obtain⟨last,ts,b0,b1,hpl,O,hc,ht,h0,U⟩:=h;have c0:=O.K 26 (jb0 hpl);have c1:=O.K 27 (XT hpl);have c2:=O.K 28 (jb2 hpl);have f2:=O.frozen 28;have hgl:=O.lt;rw[show((([]:List UInt8).length:Nat):Int)=0 from J]at c1;go_enter func173,ntmps173;go_wp2_with fail;refine wp_loop_rounds 2 ?_;rw[rounds_succ];go_wp2_with fail;go_region;go_wp2_with fail;obtain⟨W,hW⟩:∃W,W=(w.setCell ⟨g,28,none⟩ (.int .u8 (a.toNat:Int))).drew:=gp;rw[<-hW];have hk1:Z W g 152 (JB pre post (.pointer (last.map fun k=>⟨k,0,none⟩)) (.int .i64 (([]:List UInt8).length:Nat)) (.int .u8 (a.toNat:Int)) (.int .u8 (b1.toNat:Int))):=lW;have hc1:wu W ts last:=mj;have hg1:w.grownBy W (some g):=kX;clear hW c0 c1 c2 f2 hgl O hc;have c0:=hk1.K 26 (jb0 hpl);have c1:=hk1.K 27 (XT hpl);have f0:=hk1.frozen 26;have f1:=hk1.frozen 27;have hgl:=hk1.lt;rw[show((([]:List UInt8).length:Nat):Int)=0 from J]at c1;rw[rounds_succ];go_wp2_with fail;go_end0;exact Pz hpl (s:=[a]) hk1 hc1 ht ap (fun x hx=>by simpa using hx) (fun x hx=>by simp at hx) hg1 _ ap
theorem Ui(g:Nat)(pre post:List Value)(a b:UInt8)(s:List UInt8)(w:World)(h:wI w g pre post [])(F:s.length+2<=281474976710656):
  Calls prog 173 #[.pointer (some ⟨g,26,none⟩),.string (bs (a::b::s))] w (Cx (.tuple #[]) g pre post ([]++(a::b::s)) w):=by
 obtain⟨last,ts,b0,b1,hpl,O,hc,ht,h0,U⟩:=h;have c0:=O.K 26 (jb0 hpl);have c1:=O.K 27 (XT hpl);have c2:=O.K 28 (jb2 hpl);have f2:=O.frozen 28;have hgl:=O.lt;rw[show((([]:List UInt8).length:Nat):Int)=0 from J]at c1;go_enter func173,ntmps173;go_wp2_with fail;refine wp_loop_rounds 3 ?_;rw[rounds_succ];go_wp2_with fail;go_region;go_wp2_with fail;obtain⟨W,hW⟩:∃W,W=(w.setCell ⟨g,28,none⟩ (.int .u8 (a.toNat:Int))).drew:=gp;rw[<-hW];have hk1:Z W g 152 (JB pre post (.pointer (last.map fun k=>⟨k,0,none⟩)) (.int .i64 (([]:List UInt8).length:Nat)) (.int .u8 (a.toNat:Int)) (.int .u8 (b1.toNat:Int))):=lW;have hc1:wu W ts last:=mj;have hg1:w.grownBy W (some g):=kX;clear hW c0 c1 c2 f2 hgl O hc;have c0:=hk1.K 26 (jb0 hpl);have c1:=hk1.K 27 (XT hpl);have f0:=hk1.frozen 26;have f1:=hk1.frozen 27;have hgl:=hk1.lt;have c3:=hk1.K 29 (jb3 hpl);have f3:=hk1.frozen 29;rw[show((([]:List UInt8).length:Nat):Int)=0 from J]at c1;rw[rounds_succ];go_wp2_with fail;go_region;go_wp2_with fail;obtain⟨V,hV⟩:∃V,V=(W.setCell ⟨g,29,none⟩ (.int .u8 (b.toNat:Int))).drew:=gp;rw[<-hV];have hk2:Z V g 152 (JB pre post (.pointer (last.map fun k=>⟨k,0,none⟩)) (.int .i64 (([]:List UInt8).length:Nat)) (.int .u8 (a.toNat:Int)) (.int .u8 (b.toNat:Int))):=hV▸(js3 hpl hk1 (.int .u8 (b.toNat:Int))).drew;have hc2:wu V ts last:=hV▸wu.drew _ _ (wu.set hk1 29 _ _ _ hc1);have hg2:w.grownBy V (some g):=hV▸xV (uq hg1 29 _);clear hV c0 c1 c3 f0 f1 f3 hgl hk1 hc1 hg1;have c0:=hk2.K 26 (jb0 hpl);have c1:=hk2.K 27 (XT hpl);have f0:=hk2.frozen 26;have f1:=hk2.frozen 27;have hgl:=hk2.lt;rw[show((([]:List UInt8).length:Nat):Int)=0 from J]at c1;rw[rounds_succ];go_wp2_with fail;go_end0;exact Pz hpl (s:=a::b::s) hk2 hc2 ht ap (fun x hx=>by simpa using hx) (fun x hx=>by simpa using hx) hg2 _ ap
theorem Lx(g:Nat)(pre post:List Value)(p s:List UInt8)(w:World)(h:wI w g pre post p)(F:p.length+s.length<=281474976710656):
  Calls prog 173 #[.pointer (some ⟨g,26,none⟩),.string (bs s)] w (Cx (.tuple #[]) g pre post (p++s) w):=by
 rcases s with _|⟨a,s⟩
 ·exact ZF g pre post p w h
 ·
  rcases p with _|⟨c,p⟩
  ·
   rcases s with _|⟨b,s⟩
   ·exact Uh g pre post a w h
   ·exact Ui g pre post a b s w h aL
  ·
   rcases p with _|⟨d,p⟩
   ·exact ZH g pre post c a s w h (by simp at F;omega)
   ·exact ZG g pre post _ _ w h ap ap F
def wm(p:List UInt8):Bool:=decide (2<=p.length)&&decide (uN (p.take 2)<=p.length-2)
theorem yK(s:List UInt8):wm s=true↔2<=s.length/\uN (s.take 2)<=s.length-2:=by simp[wm]
def Ic(s:List UInt8):List UInt8:=(s.drop 2).take (uN (s.take 2))
def zQ(s:List UInt8):List UInt8:=s.drop (2+uN (s.take 2))
def ZI:Nat->List UInt8->List (List UInt8)×List UInt8
 |0,s=>([],s)
 |k+1,s=>if wm s then(Ic s::(ZI k (zQ s)).1,(ZI k (zQ s)).2)else([],s)
theorem Dt(s:List UInt8)(h:wm s=true):(zQ s).length+2<=s.length:=by
 have:=(yK s).1 h;simp[zQ];omega
theorem ZJ:∀(k j:Nat) (s:List UInt8),s.length<=k->s.length<=j->ZI k s=ZI j s:=by
 intro k;induction k with
 |zero=>
  intro j s O hj;have hs:s=[]:=gV;subst hs;cases j with
  |zero=>rfl
  |succ j=>simp[ZI,wm]
 |succ k ih=>
  intro j s O hj;cases j with
  |zero=>have hs:s=[]:=gV;subst hs;simp[ZI,wm]
  |succ j=>
   unfold ZI;cases hw:wm s with
   |false=>rfl
   |true=>have:=Dt s hw;rw[ih j (zQ s) I I]
def vF(s:List UInt8):List (List UInt8):=(ZI s.length s).1
def yb(s:List UInt8):List UInt8:=(ZI s.length s).2
theorem vX(s:List UInt8)(h:wm s=false):vF s=[]/\yb s=s:=by
 unfold vF yb;cases s.length with
 |zero=>exact⟨J,J⟩
 |succ k=>simp[ZI,h]
theorem xY(s:List UInt8)(h:wm s=true):vF s=Ic s::vF (zQ s)/\yb s=yb (zQ s):=by
 have hl:=Dt s h;obtain⟨k,O⟩:∃k,s.length=k+1:=⟨s.length-1,I⟩;unfold vF yb;rw[O];simp only[ZI,h,if_true];rw[ZJ k (zQ s).length (zQ s) I (Nat.le_refl _)];exact⟨J,J⟩
theorem W8(a b:List UInt8)(h:wm a=true):wm (a++b)=true/\Ic (a++b)=Ic a/\zQ (a++b)=zQ a++b:=by
 obtain⟨U,X⟩:=(yK a).1 h;have e:(a++b).take 2=a.take 2:=List.take_append_of_le_length U;refine⟨(yK _).2 ⟨az,by rw[e];simp;omega⟩,?_,?_⟩
 ·unfold Ic;rw[e,List.drop_append_of_le_length U,List.take_append_of_le_length az]
 ·unfold zQ;rw[e,List.drop_append_of_le_length I]
theorem Uj:∀(n:Nat) (a b:List UInt8),a.length<=n->vF (a++b)=vF a++vF (yb a++b)/\yb (a++b)=yb (yb a++b):=by
 intro n;induction n with
 |zero=>intro a b h;have ha:a=[]:=gV;subst ha;have:=vX [] J;rw[this.1,this.2];simp
 |succ n ih=>
  intro a b h;cases hw:wm a with
  |false=>rw[(vX a hw).1,(vX a hw).2];simp
  |true=>obtain⟨w1,w2,w3⟩:=W8 a b hw;have hl:=Dt a hw;obtain⟨i1,i2⟩:=ih (zQ a) b I;rw[(xY _ w1).1,(xY _ w1).2,(xY a hw).1,(xY a hw).2,w2,w3,i1,i2];simp
theorem ZK:∀(n:Nat) (a:List UInt8),a.length<=n->(yb a).length<=a.length:=by
 intro n;induction n with
 |zero=>intro a h;have ha:a=[]:=gV;subst ha;rw[(vX [] J).2];exact Nat.le_refl _
 |succ n ih=>
  intro a h;cases hw:wm a with
  |false=>rw[(vX a hw).2];exact Nat.le_refl _
  |true=>have hl:=Dt a hw;have:=ih (zQ a) I;rw[(xY a hw).2];omega
theorem Oe:∀(n:Nat) (a:List UInt8),a.length<=n->(vF a).length*2+(yb a).length<=a.length:=by
 intro n;induction n with
 |zero=>intro a h;have ha:a=[]:=gV;subst ha;rw[(vX [] J).1,(vX [] J).2];simp
 |succ n ih=>
  intro a h;cases hw:wm a with
  |false=>rw[(vX a hw).1,(vX a hw).2];simp
  |true=>have hl:=Dt a hw;have:=ih (zQ a) I;rw[(xY a hw).1,(xY a hw).2];simp;omega
theorem Uk{A w1:World}(h:al A W)(b:al W w1):al A w1:=h.trans (b.mono h.size)
theorem aeo{p q:Prop}(h:p)(f:p->q):p/\q:=⟨h,f h⟩
theorem acs(g:Nat)(rest:List UInt8)(w:World)(h:zV w g rest false)(hl:rest.length<=maxLen)(X:2<=rest.length):
  Calls prog 177 #[.pointer (some ⟨g,0,none⟩),.int .i64 2] w (Kk (.int .i64 (uN (rest.take 2))) g (rest.drop 2) false w):=by
 exact pO
theorem RH(g:Nat)(pre post:List Value)(p:List UInt8)(w:World)(h:wI w g pre post p)(hp:p.length<2):Calls prog 174 #[.pointer (some ⟨g,26,none⟩)] w (uf (.bool (wm p)) w):=by
 obtain⟨last,ts,b0,b1,hpl,O,hc,ht,h0,U⟩:=h;have c1:=O.K 27 (XT hpl);have hp':(p.length:Int)<2:=I;have hd:decide ((2:Int)<=p.length)=false:=az;have hw0:wm p=false:=by simp[wm];omega
 rw[hw0];clear hw0;go_enter func174,ntmps174;go_wp2_with fail;go_quiet(fail);go_wp2_with fail;go_ret;exact uf.mk J (below_drewN (Below.refl _ _) _)
theorem W9(g:Nat)(pre post:List Value)(a b:UInt8)(p:List UInt8)(w:World)(h:wI w g pre post (a::b::p))(hm:p.length<=281474976710656):Calls prog 174 #[.pointer (some ⟨g,26,none⟩)] w (uf (.bool (wm (a::b::p))) w):=by
 obtain⟨last,ts,b0,b1,hpl,O,hc,ht,h0,U⟩:=h;obtain rfl:b0=a:=h0 a J;obtain rfl:b1=b:=U b J;obtain⟨n,hn⟩:∃n:Int,n=((b0::b1::p).length:Nat):=gp;rw[<-hn]at O;have hn2:(2:Int)<=n:=by simp at hn;omega
 have hn3:n<=281474976710658:=by simp at hn;omega
 have HN:=Y hn;have hcv:∀W,al w W->W.cell? ⟨g,27,none⟩=some (.int .i64 n)/\(convert 145 9 (.slice (some ⟨g,28,none⟩) 2 2)).run prog W= .ok (.string (bs [b0,b1])) W:=by
  intro W hW;have hB:=O.G hW O.lt;refine⟨hB.K 27 (XT hpl),run_convert_bytes_back W 145 9 5 ⟨g,28,none⟩ 2 [b0,b1] underlying145 underlying5 underlying9 ?_⟩;intro j hj;have:j=0\/j=1:=by simp at hj;omega
  rcases this with rfl|rfl
  ·exact hB.K 28 (jb2 hpl)
  ·exact hB.K 29 (jb3 hpl)
 have HS:=Y hcv;clear hcv hn O hc ht h0 U;go_enter func174,ntmps174;go_wp2_with fail;go_region_held3(fun w'=>al w w'/\w'.cell? ⟨g,27,none⟩=some (.int .i64 n)/\(convert 145 9 (.slice (some ⟨g,28,none⟩) 2 2)).run prog w'= .ok (.string (bs [b0,b1])) w') ((refine aeo ?_ (HS.out _);first|exact(Below.refl _ _).drew|exact Uk (And.left ‹al w _/\_›) b3|exact tN (And.left ‹al w _/\_›) b4 (And.left ‹al w _/\_›).size hg3))
  (first
   |(go_at_call 176;refine(Dz [b0,b1] _).mono ?_;rintro e w3 ⟨rfl,h3,b3⟩;have hg3:=(And.left ‹al w _/\_›).size)
   |(go_at_call 177;refine(acs _ [b0,b1] _ h3 (by simp[maxLen]) ap).mono ?_;rintro e w4 ⟨rfl,h4,b4⟩))
 have axa:=And.left ‹al w _/\_›;go_wp2_with fail;go_ret;refine uf.mk (zD ?_) axa;rw[IntWalk.i64_in _ I];have:=HN.out;simp only[List.length_cons]at this;simp only[wm,List.length_cons,List.take_succ_cons,List.take_zero];rw[Bool.eq_iff_iff];simp only[decide_eq_true_eq,Bool.and_eq_true];constructor
 ·intro hh;refine⟨I,decide_eq_true ?_⟩;omega
 ·rintro⟨_,hh⟩;have:=of_decide_eq_true hh;omega
theorem Of(g:Nat)(pre post:List Value)(p:List UInt8)(w:World)(h:wI w g pre post p)(hm:p.length<=281474976710656):Calls prog 174 #[.pointer (some ⟨g,26,none⟩)] w (uf (.bool (wm p)) w):=by
 rcases p with _|⟨a,p⟩
 ·exact RH g pre post [] w h ap
 ·
  rcases p with _|⟨b,p⟩
  ·exact RH g pre post [a] w h ap
  ·exact W9 g pre post a b p w h (by simp at hm;omega)
def Cm(n:Nat)(done:List UInt8):List Value:=vl (List.replicate (n-done.length) 0)++vl done
theorem PA(n:Nat)(done:List UInt8)(h:done.length<=n):(Cm n done).length=n:=by simp[Cm,vB];omega
theorem Ul(n:Nat)(t done:List UInt8)(h:t.length+done.length<=n):
  (Cm n done).take (n-(t.length+done.length))++vl t++(Cm n done).drop (n-(t.length+done.length)+t.length)=Cm n (t++done):=by
 have e1:(Cm n done).take (n-(t.length+done.length))=vl (List.replicate (n-(t.length+done.length)) 0):=by unfold Cm;rw[List.take_append_of_le_length aH];simp[vl,List.take_replicate];omega
 have e2:(Cm n done).drop (n-(t.length+done.length)+t.length)=vl done:=by unfold Cm;rw[List.drop_append_of_le_length aH,List.drop_of_length_le aH,List.nil_append]
 rw[e1,e2];unfold Cm;rw[AB,List.length_append,List.append_assoc]
theorem wu.Cn{w:World}(O:∀g cs,Z w g 320 cs->Z w' g 320 cs):∀(ts:List (List UInt8)) (o:Option Nat),wu w ts o->wu w' ts o:=by
 intro ts;induction ts with
 |nil=>intro o h;exact h
 |cons t rest ih=>rintro o ⟨g,next,U,X,h3,h4⟩;exact⟨g,next,U,X,O g _ h3,ih next h4⟩
theorem Z.Vy{w:World}{g':Nat}{t t':TypeId}{cs':List Value}(h:Z w g t cs)(h':Z w g' t' cs')(hne:t≠t'):g≠g':=by
 rintro rfl;unfold Z at h h';rw[h]at h';injection h' with h';injection h' with _ ht;exact hne ht
def RI(w:World)(g:Nat)(pre post:List Value)(p:List UInt8)(last:Option Nat)(b0 b1:UInt8)(k:Option Nat)(ts:List (List UInt8))(done:List UInt8)(wr:World):Prop:=
 Z wr g 152 (JB pre post (.pointer (last.map fun k=>⟨k,0,none⟩)) (.int .i64 p.length) (.int .u8 (b0.toNat:Int)) (.int .u8 (b1.toNat:Int)))/\wu wr ts k/\EK ts++done=p/\
  Z wr w.heap.size 5 (Cm p.length done)/\al w wr
theorem Xa(g:Nat)(pre post:List Value)(p:List UInt8)(w:World)(h:wI w g pre post p)(hm:p.length<=281474976710656):Calls prog 175 #[.pointer (some ⟨g,26,none⟩)] w (Cx (.string (bs p)) g pre post [] w):=by
 obtain⟨last,ts,b0,b1,hpl,O,hc,ht,h0,U⟩:=h;have c0:=O.K 26 (jb0 hpl);have c1:=O.K 27 (XT hpl);have hgl:=O.lt;have hmk:=Jf p.length hm;have hinv:RI w g pre post p last b0 b1 last ts [] (w.alloc (.cells (vl (List.replicate p.length 0)).toArray 5)):=
  ⟨O.alloc _,wu.alloc _ _ _ hc,by rw[ht,List.append_nil],by
   have:=Z.new w 5 (vl (List.replicate p.length 0));simpa[Cm,vl]using this,(Below.refl _ _).alloc (Nat.le_refl _) _⟩
 have HI:=Y hinv;clear hinv hc ht h0 U O;go_enter func175,ntmps175;go_wp2_with fail;clear hmk c0 c1;go_loopw[4,5] (fun ud q wr=>∃(k:Option Nat) (ts:List (List UInt8)) (done:List UInt8) (o:Option Addr),o=k.map (fun k=>⟨k,0,none⟩)/\ud= .int .i64 ((p.length-done.length:Nat):Int)/\q= .pointer o/\RI w g pre post p last b0 b1 k ts done wr)
  (fun ud _ _=>(intOf ud).toNat)
 case atStart=>exact⟨last,ts,[],_,J,ap,J,HI.out⟩
 case round=>
  clear HI;obtain⟨k,ts,done,o,ho,rfl,rfl,q0,q1,q2,q3,q4⟩:=hrel;rcases ts with _|⟨t,rest⟩
  ·
   obtain rfl:k=none:=q1;obtain rfl:o=none:=ho;have hd:done=p:=by simpa[EK]using q2
   subst hd;have c0:=q0.K 26 (jb0 hpl);have c1:=q0.K 27 (XT hpl);have c2:=q0.K 28 (jb2 hpl);have c3:=q0.K 29 (jb3 hpl);have f0:=q0.frozen 26;have f1:=q0.frozen 27;have f2:=q0.frozen 28;have f3:=q0.frozen 29;have hg4:wr.grownBy ((((wr.setCell ⟨g,26,none⟩ (.pointer none)).setCell ⟨g,27,none⟩ (.int .i64 0)).setCell ⟨g,28,none⟩ (.int .u8 0)).setCell ⟨g,29,none⟩ (.int .u8 0)) (some g):=uq (uq (uq (uq (World.grownBy.refl _ _) 26 _) 27 _) 28 _) 29 _;have hk4:Z ((((wr.setCell ⟨g,26,none⟩ (.pointer none)).setCell ⟨g,27,none⟩ (.int .i64 0)).setCell ⟨g,28,none⟩ (.int .u8 0)).setCell ⟨g,29,none⟩ (.int .u8 0)) g 152 (JB pre post (.pointer none) (.int .i64 0) (.int .u8 0) (.int .u8 0)):=js3 hpl (js2 hpl (js1 hpl (js0 hpl q0 (.pointer none)) (.int .i64 0)) (.int .u8 0)) (.int .u8 0);have hcv:=Kt _ w.heap.size done.length done _ (q3.grown hg4 az) (by unfold Cm;rw[Nat.sub_self,List.take_of_length_le (by simp[vl])];rfl);have HK:=Y hk4;have HG:=Y hg4;clear hk4 hg4;go_wp2_with fail;go_ret;refine⟨J,⟨none,[],0,0,hpl,HK.out,J,J,ap,ap⟩,?_⟩;exact tU (uj q4 (some g)) HG.out (.inl J)
  ·
   obtain⟨kk,next,rfl,r1,r2,r3⟩:=q1;obtain rfl:o=some ⟨kk,0,none⟩:=ho;obtain⟨o2,ho2⟩:∃o2:Option Addr,o2=next.map fun k=>⟨k,0,none⟩:=gp
   rw[<-ho2]at r2;have HO:=Y ho2;clear ho2;have c0:=r2.K 0 J;have c1:=r2.K 1 J;rw[Jx]at q2;have hlen:(EK rest).length+t.length+done.length=p.length:=by rw[<-q2];simp;omega
   have agE:0<t.length:=List.length_pos_iff.2 r1;have hl1:t.length+done.length<=p.length:=I;obtain⟨m,hm1⟩:∃m,m=p.length-(t.length+done.length):=gp;rw[show p.length-done.length=m+t.length by omega];have hfl:=PA p.length done I;have hcp:=Ha wr.drew w.heap.size m (p.length-m) (p.length-m) t (Cm p.length done) q3.drew I I;have hfc:=Ul p.length t done hl1;rw[<-hm1]at hfc;rw[hfc]at hcp;have hmp:m<=p.length:=I;have hne:¬p.length=m:=I;have Q2:=Y q2;have HM:=Y hm1;clear hfc hfl q2 hlen hm1;generalize hF:Cm p.length (t++done)=afW at*;have HF:=Y hF;clear hF;go_wp2_with fail;go_region;obtain⟨W,hW⟩:∃W,W=wr.drew.setRow w.heap.size afW.toArray:=gp;rw[<-hW];have ajG:∀j t cs,t≠5->Z wr j t cs->Z W j t cs:=fun j t cs hne F=>hW▸Td F.drew _ (F.Vy q3 hne)
   have s0:=ajG _ _ _ ax q0;have s2:=ajG _ _ _ ax r2;have s3:=wu.Cn (fun j cs F=>ajG j _ cs ax F) _ _ r3;have s4:Z W w.heap.size 5 afW:=hW▸Gt q3.drew afW;have s5:al w W:=hW▸below_setRow q4.drew (Nat.le_refl _) _;clear hW ajG hcp q0 q3 q4 r2 r3 c0 c1;have c1:=s2.K 1 J;go_wp2_with fail;go_roundw
   case rel=>refine⟨next,rest,t++done,o2,HO.out,?_,J,s0,s3,by rw[<-List.append_assoc];exact Q2.out,by rw[HF.out];exact s4,s5⟩;have:=HM.out;rw[List.length_append,this]
   case measure=>simp[intOf];omega
theorem wI.Cn{w:World}(O:∀j t cs,t≠9->Z w j t cs->Z w' j t cs)(h:wI w g pre post p):wI w' g pre post p:=by
 obtain⟨last,ts,b0,b1,hpl,F,hc,r⟩:=h;exact⟨last,ts,b0,b1,hpl,O _ _ _ ax F,wu.Cn (fun j cs F=>O j _ cs ax F) _ _ hc,r⟩
theorem wI.G{w:World}(h:wI w g pre post p)(F:al w w'):wI w' g pre post p:=
 h.Cn fun _ _ _ _ hj=>hj.G F hj.lt
theorem wI.grown{w:World}{k:Nat}(h:wI w g pre post p)(hg:w.grownBy w' (some k)){t:TypeId}(O:Z w k t cs)(U:t≠152)(X:t≠320):wI w' g pre post p:=by
 obtain⟨last,ts,b0,b1,hpl,F,hc,r⟩:=h;refine⟨last,ts,b0,b1,hpl,F.grown hg ?_,wu.Cn (fun j cs hj=>hj.grown hg ?_) _ _ hc,r⟩
 ·intro e;injection e with e;exact F.Vy O (Ne.symm U) e
 ·intro e;injection e with e;exact hj.Vy O (Ne.symm X) e
def PB(g:Nat)(pre post:List Value)(fr:List (List UInt8))(rest:List UInt8)(w:World)(e:Ending)(w':World):Prop:=∃v,e= .returned v/\wh w' v fr/\wI w' g pre post rest/\w.grownBy w' (some g)
def ZM:Value->Nat
 | .string s=>s.size
 |_=>0
theorem abx(g:Nat)(pre post:List Value)(p s:List UInt8)(w:World)(h:wI w g pre post p)(F:p.length+s.length<=281474976710656)(hw:wm (p++s)=false):
  Calls prog 118 #[.pointer (some ⟨g,26,none⟩),.string (bs s)] w (PB g pre post (vF (p++s)) (yb (p++s)) w):=by
 rw[(vX _ hw).1,(vX _ hw).2];have HW:=Y hw;clear hw;go_enter func118,ntmps118;go_wp2_with fail;refine(Lx g pre post p s w h F).mono ?_;rintro e w1 ⟨rfl,U,g1⟩;go_wp2_with fail;refine(Of g pre post _ _ U aL).mono ?_;rw[HW.out];rintro e w2 ⟨rfl,b2⟩;go_wp2_with fail;go_ret;exact⟨_,J,wh.nil _,U.G b2,vk g1 b2⟩
def Vz(w:World)(g:Nat)(pre post:List Value)(s:List UInt8)(r:List UInt8)(v:Value)(wr:World):Prop:=
 ∃done,wh wr v done/\done.length+r.length<=s.length/\wI wr g pre post []/\w.grownBy wr (some g)/\(∀k,v.ownBlock=some k->w.heap.size<=k)/\vF s=done++vF r/\yb s=yb r
theorem ZN(g:Nat)(pre post:List Value)(p s:List UInt8)(w:World)(h:wI w g pre post p)(F:p.length+s.length<=8796093022208)(hw:wm (p++s)=true):
  Calls prog 118 #[.pointer (some ⟨g,26,none⟩),.string (bs s)] w (PB g pre post (vF (p++s)) (yb (p++s)) w):=by
 have HW:=Y hw;clear hw;have hls:(p++s).length<=8796093022208:=aL;go_enter func118,ntmps118;go_wp2_with fail;refine(Lx g pre post p s w h I).mono ?_;rintro e w1 ⟨rfl,U,g1⟩;go_wp2_with fail;refine(Of g pre post _ _ U I).mono ?_;rw[HW.out];rintro e w2 ⟨rfl,b2⟩;have X:=U.G b2;have g2:=vk g1 b2;go_wp2_with fail;refine(Xa g pre post _ _ X I).mono ?_;rintro e w3 ⟨rfl,h3,g3⟩;have g3':=tU g2 g3 (.inl J);generalize p++s=ps at*;clear h U X g1 g2 g3 b2 HW;clear w1 w2;have hinv:Vz w g pre post ps ps (.slice none 0 0) w3:=⟨[],wh.nil _,ap,h3,g3',by simp[Value.ownBlock],ap,J⟩;have HI:=Y hinv;clear hinv h3 g3';go_wp2_with fail;go_loopw[5,6] (fun v q wr=>∃r:List UInt8,q= .string (bs r)/\Vz w g pre post ps r v wr) (fun _ q _=>ZM q)
 case atStart=>exact⟨ps,J,HI.out⟩
 case round=>
  clear HI;obtain⟨r,rfl,done,t0,hdl,j0,f0,hob,e1,e2⟩:=hrel;have OB:=Y hob;clear hob;have E1:=Y e1;have E2:=Y e2;clear e1 e2;by_cases hlen:2<=r.length
  ·
   have ahx:(2:Int)<=r.length:=I;go_wp2_with fail;refine(Dz r _).mono ?_;rintro e w4 ⟨rfl,y4,b4⟩;go_wp2_with fail;refine(acs _ r _ y4 aJ hlen).mono ?_;rintro e w5 ⟨rfl,y5,g5⟩;have t5:wh w5 u5 done:=(t0.G b4).grown g5 y4 ax;have j5:wI w5 g pre post []:=(j0.G b4).grown g5 y4 ax ax;have f5:w.grownBy w5 (some g):=tU (vk f0 b4) g5 (.inr (fun k O=>by injection O with O;subst O;exact f0.size));have aFa:uN (r.take 2)<65536:=Af _ 2 az;clear t0 j0 f0 b4 g5 y4 y5;clear w4;by_cases hwh:uN (r.take 2)<=r.length-2
   ·
    have hwt:wm r=true:=(yK r).2 ⟨hlen,hwh⟩;have F1:=Y (xY r hwt);have R1:=Y (show zQ r=r.drop (2+uN (r.take 2))from J);have M1:=Y (show Ic r=(r.take (2+uN (r.take 2))).drop 2 by rw[List.drop_take];unfold Ic;congr 1;omega);have hn1:(uN (r.take 2):Int)<=(r.length:Int)-2:=I;clear hwt;generalize uN (r.take 2)=n at*;go_wp2_with(at_builtin;go_must(refine Gs _ J (.tmp 29) (.tmp 34) 25 J 9 (.string ⟨#[]⟩) 1 16 underlying25 DB J ax u5 done.length _ J (World.ownsRow.alloc t5 _) ⟨w5.heap.size,0,none⟩ 1 1 [.string (bs ((r.take (2+n)).drop 2))] J J (Bf _ _ _ _ J) (zm J) ax aJ I ?_));intro gg cap w6 akI g6 hat;have hkp:=VU (World.ownsRow.alloc t5 (.cells #[.string (bs ((r.take (2+n)).drop 2))] 9)) g6;have j6:wI w6 g pre post []:=(j5.Cn (fun _ _ _ _ F=>F.alloc _)).Cn hkp;have f6:w.grownBy w6 (some g):=tU (zk f5 _) g6 (.inr OB.out);have t6:wh w6 (.slice (some ⟨gg,0,none⟩) (done.length+1) cap) (done++[Ic r]):=by unfold wh;rw[M1.out];simpa using akI
    have ob6:w.heap.size<=gg:=by
     rcases hat with e|e
     ·exact OB.out _ e
     ·have:=f5.size;omega
    have OB6:=Y ob6;have T6:=Y t6;clear hkp akI g6 hat OB t5 j5 f5 ob6 t6;go_wp2_with fail;go_roundw
    case rel=>
     refine⟨r.drop (2+n),J,done++[Ic r],T6.out,?_,j6,f6,?_,?_,?_⟩
     ·simp;omega
     ·intro k O;have:gg=k:=iE;subst this;exact OB6.out
     ·rw[E1.out,F1.out.1,R1.out];simp
     ·rw[E2.out,F1.out.2,R1.out]
    case measure=>simp[ZM];omega
   ·
    have hno:wm r=false:=by exact tJ
    have hn1:(r.length:Int)-2<(uN (r.take 2):Int):=I;exact pi
  ·
   have hno:wm r=false:=by exact tJ
   have ahx:¬(2:Int)<=r.length:=I;have t5:=t0;have j5:=j0;have f5:=f0;exact pi
theorem ZO(g:Nat)(pre post:List Value)(p s:List UInt8)(w:World)(h:wI w g pre post p)(F:p.length+s.length<=8796093022208):
  Calls prog 118 #[.pointer (some ⟨g,26,none⟩),.string (bs s)] w (PB g pre post (vF (p++s)) (yb (p++s)) w):=by
 cases hw:wm (p++s)with
 |false=>exact abx g pre post p s w h I hw
 |true=>exact ZN g pre post p s w h F hw
theorem PC(s:List UInt8)(w:World)(h:s.length<=65535):Calls prog 75 #[.string (bs s)] w (uf (.tuple #[.string (bs (tT 2 s.length++s)),.int .i64 0]) w):=by
 have hl:=tR 2 (s.length:Int);go_enter func75,ntmps75;go_wp2_with fail;refine(wi _ _ _).mono ?_;rintro e w1 ⟨rfl,b1⟩;rw[show hw 2=2 from J];generalize tT 2 (s.length:Int)=p at*;have hp:p.length<=2:=I;clear hl;go_wp2_with fail;go_ret2;exact uf.mk J b1
def acu(s:List UInt8)(w:World)(e:Ending)(w':World):Prop:=∃v,e= .returned (.tuple #[v,.int .i64 ((s.length-(yb s).length:Nat):Int)])/\wh w' v (vF s)/\al w w'
def acv(w:World)(s:List UInt8)(k:Nat)(v:Value)(wr:World):Prop:=
 ∃done,k<=s.length/\wh wr v done/\done.length<=k/\al w wr/\(∀k,v.ownBlock=some k->w.heap.size<=k)/\vF s=done++vF (s.drop k)/\yb s=yb (s.drop k)
theorem adh(s:List UInt8)(k n:Nat):((s.drop k).drop 2).take n=(s.take (k+2+n)).drop (k+2):=by
 rw[List.drop_drop,List.drop_take];congr 1;omega
theorem Um(s:List UInt8)(w:World)(F:s.length<=8796093022208):Calls prog 19 #[.string (bs s)] w (acu s w):=by
 have HI:=Y (show acv w s 0 (.slice none 0 0) w from⟨[],Nat.zero_le _,wh.nil _,Nat.le_refl _,Below.refl _ _,by simp[Value.ownBlock],ap,ap⟩);go_enter func19,ntmps19;go_wp2_with fail;go_loopw[4,5] (fun v i wr=>∃k:Nat,i= .int .i64 k/\acv w s k v wr) (fun _ i _=>s.length+2-(intOf i).toNat)
 case atStart=>exact⟨0,J,HI.out⟩
 case round=>
  clear HI;obtain⟨k,rfl,done,O,t0,hdl,b0,hob,e1,e2⟩:=hrel;have E1:=Y e1;have E2:=Y e2;have OB:=Y hob;clear e1 e2 hob;by_cases hlen:k+2<=s.length
  ·
   have ahx:(k:Int)+2<=s.length:=I;go_wp2_with fail;refine(xW _ _ az).mono ?_;rintro e w' ⟨rfl,rfl⟩;have hnn:uN (((s.take (k+2)).drop k))=uN ((s.drop k).take 2):=by rw[List.drop_take];congr 2;omega
   have Hh:uN ((s.take (k+2)).drop k)<65536:=Af _ 2 az;have NN:=Y hnn;clear hnn;have hrl:(s.drop k).length=s.length-k:=ap;by_cases hwh:k+2+uN ((s.take (k+2)).drop k)<=s.length
   ·
    have hwt:wm (s.drop k)=true:=(yK _).2 ⟨I,by rw[<-NN.out];omega⟩;have F1:=Y (xY _ hwt);have R1:=Y (show zQ (s.drop k)=s.drop (k+2+uN ((s.take (k+2)).drop k))by unfold zQ;rw[<-NN.out,List.drop_drop];congr 1;omega);have M1:=Y (show Ic (s.drop k)=(s.take (k+2+uN ((s.take (k+2)).drop k))).drop (k+2)by
     unfold Ic;rw[<-NN.out];exact adh s k _)
    clear hwt hrl;have awu:(k:Int)+2+uN ((s.take (k+2)).drop k)<=s.length:=I;generalize uN ((s.take (k+2)).drop k)=n at*;go_wp2_with(at_builtin;go_must(refine Gs _ J (.tmp 25) (.tmp 34) 25 J 9 (.string ⟨#[]⟩) 1 16 underlying25 DB J ax u4 done.length _ J (World.ownsRow.alloc t0 _) ⟨wr.heap.size,0,none⟩ 1 1 [.string (bs ((s.take (k+2+n)).drop (k+2)))] J J (Bf _ _ _ _ J) (zm J) ax aJ I ?_));intro gg cap w6 akI g6 hat;have b6:al w w6:=(b0.alloc b0.size _).grown g6 (by have:=b0.size;simp;omega) OB.out;have T6:=Y (show wh w6 (.slice (some ⟨gg,0,none⟩) (done.length+1) cap) (done++[Ic (s.drop k)])by
     unfold wh;rw[M1.out];simpa using akI)
    have OB6:=Y (show w.heap.size<=gg by
     rcases hat with e|e
     ·exact OB.out _ e
     ·
      have:=b0.size;omega)
    clear akI g6 hat OB t0 b0;go_wp2_with fail;go_roundw
    case rel=>
     refine⟨k+2+n,fU,done++[Ic (s.drop k)],I,T6.out,az,b6,?_,?_,?_⟩
     ·
      intro j hj;have:gg=j:=by simpa[Value.ownBlock]using hj
      subst this;exact OB6.out
     ·rw[E1.out,F1.out.1,R1.out];simp
     ·rw[E2.out,F1.out.2,R1.out]
    case measure=>simp[intOf];omega
   ·
    have hno:wm (s.drop k)=false:=by rw[<-Bool.not_eq_true,yK,<-NN.out];omega
    have FN:=Y (vX _ hno);clear hno;have awu:(s.length:Int)<(k:Int)+2+uN ((s.take (k+2)).drop k):=I;generalize uN ((s.take (k+2)).drop k)=n at*;exact qJ
  ·
   have hno:wm (s.drop k)=false:=by rw[<-Bool.not_eq_true,yK];simp;omega
   have FN:=Y (vX _ hno);clear hno;have ahx:(s.length:Int)<(k:Int)+2:=I;exact qJ
end Go.Proofs.YthnbcmlnpdabhaaGreat
