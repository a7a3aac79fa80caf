/-
  Layer 34 (host):a look for a host's addresses,in memory.
-/
import Derived.Test.YtakkipnmpmobbaaGreatLBq
import Derived.Test.YtakkipnmpmobbaaGreatWalk33bq
namespace Go.Proofs.YtakkipnmpmobbaaGreat
open _root_.Go.Proofs.Tryz
set_option maxHeartbeats 8000000
open Go.RowKit
set_option maxRecDepth 100000
set_option linter.unusedVariables false
set_option linter.unusedSimpArgs false
variable {v:Value} {S:Nat->Prop} {w w' w0 a b:World} {cs T:List Value} {lo c lo' g Hh n:Nat} {e:TypeId}
structure Hc where
 vh:Value
 vs:Value
 vv:Value
 nv:Value
 cv:Value
 fam:Int
 turn:Int
 gl:Nat
 av:Value
 next:Nat
 ag:Bool
 nd:Bool
 bg:Nat
 pp:Option Nat
 tv:Value
 r6:Nat
 dn:Bool
 r0:Int
 r1:Value
 r2:Value
 r3:Int
def Ek(c:Hc):List Value:=[c.vh,c.vs,c.vv,c.nv,c.cv,.int .i64 c.fam,.int .i64 c.turn,.pointer (some ⟨c.gl,0,none⟩),c.av,.int .i64 (c.next:Int),.bool c.ag,.bool c.nd,.int .i64 (c.bg:Int),Dw c.pp,c.tv,.int .i64 (c.r6:Int),.bool c.dn,.int .i64 c.r0,c.r1,c.r2,.int .i64 c.r3]
def HK(w:World)(g:Nat)(T:List Value)(c:Hc):Prop:=N w g 91 (T++Ek c)/\T.length=10
section
variable {w w':World} {g:Nat} {T:List Value} {c:Hc}
theorem HK.len(h:HK w g T c):(T++Ek c).length=31:=by rw[List.length_append,h.2];rfl
theorem HK.ci(h:HK w g T c){u:Value}(i:Nat)(hu:(Ek c)[i]?=some u):w.cell? ⟨g,10+i,none⟩=some u:=h.1.rD (10+i) ((VP h.2 _ i).trans hu)
theorem HK.G(h:HK w g T c)(k:ao w w'):HK w' g T c:=⟨h.1.G k h.1.lt,h.2⟩
theorem HK.same{T':List Value}(h:HK w g T c)(h':HK w g T' c):T'=T:=by
 have U:=h'.1;have F:=h.1;unfold N at U F;rw[F]at U;injection U with U;injection U with U;have e:T'++Ek c=T++Ek c:=by simpa using(congrArg Array.toList U).symm
 exact List.append_cancel_right e
theorem HK.put(h:HK w g T c){c':Hc}(i:Nat)(Z:N w' g 91 ((T++Ek c).set (10+i) v))(hM:(Ek c).set i v=Ek c'):HK w' g T c':=⟨by rw[OJ h.2,hM]at Z;exact Z,h.2⟩
theorem HK.agh(h:HK w g T c){c':Hc}(i:Nat){qs:List Value}(Z:N w' g 91 ((T++Ek c).take (10+i)++qs++(T++Ek c).drop (10+i+qs.length)))(hM:(Ek c).take i++qs++(Ek c).drop (i+qs.length)=Ek c'):HK w' g T c':=⟨by rw[adl h.2,hM]at Z;exact Z,h.2⟩
end
structure Cg where
 r:Rs
 hs:List xC
 ss:List Src
 nm:List (List UInt8)
 cd:List (List (List UInt8))
 fam:Int
 turn:Int
structure KS (D:Cg):Prop where
 rs:D.r.sv.length<=100/\D.r.se.length<=100/\D.r.so.length<=100
 hs:∀h∈D.hs,Pd h
 E:D.hs.length<=1000
 sl:D.ss.length<=8
 nm:rR D.nm=0
 cl:D.cd.length<=7
 cn:∀n∈D.cd,rR n=0
def Gv(n:Nat):List Int:=(List.range n).map (fun i:Nat=>(i:Int))
theorem Nm(n:Nat):Gv (n+1)=Gv n++[(n:Int)]:=by unfold Gv;rw[List.range_succ,List.map_append];rfl
theorem Sm(n:Nat):(Gv n).length=n:=by simp[Gv]
def C9(w:World)(v:Value)(xs:List sg):Prop:=uG w 0 v xs/\xs.length<=64
theorem C9.fr{xs:List sg}(h:C9 w v xs)(k:Fr S w w'):C9 w' v xs:=⟨h.1.rM (fun _ x=>k.own x bV) (fun _ _ x=>x),h.2⟩
theorem C9.G{xs:List sg}(h:C9 w v xs)(k:ao w w'):C9 w' v xs:=⟨rJ.G h.1 k (fun _ _ x=>x),h.2⟩
structure yq (w0 w:World) (b g gl:Nat) (D:Cg) (c:Hc) (n:Nat):Prop where
 k:∃T,HK w g T c/\Jw w0 w T D.r
 hs:rJ w 0 74 19 (sG w0 w) c.vh D.hs
 ss:rJ w 0 86 5 uK c.vs D.ss
 nm:y7 w c.nv D.nm
 cd:Ei w 0 c.cv D.cd
 as_:w.ownsRow g 3 1 c.av n (Bi (Gv n))
 td:∃l:List Td,yG w g c.tv l/\l.length+(if c.pp=none then 0 else 2)<=2*c.bg
 r1:∃xs:List sg,C9 w c.r1 xs
 ba:ao w0 w
 wb:w0.heap.size<=b
 bl:b<=gl
 lg:gl<g
 eq:c.gl=gl/\c.fam=D.fam/\c.turn=D.turn/\c.r2.oneCell'=true/\c.vv.oneCell'=true
def UU(t:TypeId):Prop:=t=91
theorem sG.fr{h:xC}(x:sG w0 w cs h)(k:Fr S w w'):sG w0 w' cs h:=by
 obtain⟨v,h0,U,F⟩:=x;exact⟨v,h0,U,F.rM (fun _ x=>k.own x bV) (fun _ _ x=>x)⟩
section
variable {w0 w w':World} {b g gl n:Nat} {D:Cg} {c:Hc}
theorem yq.sD(h:yq w0 w b g gl D c n):∃L,N w g 91 L:=by obtain⟨T,k,_⟩:=h.k;exact⟨_,k.1⟩
theorem yq.yu{p:TypeId->Prop}{b':Nat}(h:yq w0 w b g gl D c n)(k:Fr (wj w p b') w w')(Z:b<=b')(U:¬p 91)(F:¬p 186):yq w0 w' b g gl D c n:=by
 obtain⟨T,O,hr⟩:=h.k;obtain⟨l,htl,hll⟩:=h.td;obtain⟨xs,hxs⟩:=h.r1;exact⟨⟨T,⟨k.sD O.1 (wj.not O.1 U),O.2⟩,hr.fr k⟩,h.hs.rM (fun _ x=>k.own x bV) (fun _ _ x=>x.fr k),h.ss.rM (fun _ x=>k.own x bV) (fun _ _ x=>x),h.nm.rM k.rM,h.cd.rM (fun _ x=>k.own x bV) (fun _ _ x=>x.rM k.rM),k.own h.as_ bV,⟨l,htl.rM (fun _ x=>k.OL x F) (fun _ _ x=>x.fr k),hll⟩,⟨xs,hxs.fr k⟩,k.tD h.ba h.ba.size (Nat.le_trans h.wb Z),h.wb,h.bl,h.lg,h.eq⟩
theorem yq.G(h:yq w0 w b g gl D c n)(k:ao w w'):yq w0 w' b g gl D c n:=
 h.yu (p:=fun _=>False) (b':=b) (Fr.G k) (Nat.le_refl _) id id
theorem yq.upd{p:TypeId->Prop}(h:yq w0 w b g gl D c n){c':Hc}(k:Fr (wj w p b) w w')(O:HK w g T c)(hk':HK w' g T c')(e:c'.vh=c.vh/\c'.vs=c.vs/\c'.nv=c.nv/\c'.cv=c.cv/\c'.av=c.av/\c'.vv=c.vv)(hf:c'.gl=c.gl/\c'.fam=c.fam/\c'.turn=c.turn)(htd:∃l:List Td,yG w' g c'.tv l/\l.length+(if c'.pp=none then 0 else 2)<=2*c'.bg)(hr1:∃xs:List sg,C9 w c'.r1 xs)(hr2:c'.r2.oneCell'=true):yq w0 w' b g gl D c' n:=by
 obtain⟨T',hk2,hr⟩:=h.k;have:=O.same hk2;subst this;obtain⟨xs,hxs⟩:=hr1;obtain⟨e1,e2,e3,e4,e5,e7⟩:=e;obtain⟨f1,f2,f3⟩:=hf;refine⟨⟨_,hk',hr.fr k⟩,?_,?_,?_,?_,?_,htd,⟨xs,hxs.fr k⟩,k.tD h.ba h.ba.size h.wb,h.wb,h.bl,h.lg,?_⟩
 ·rw[e1];exact h.hs.rM (fun _ x=>k.own x bV) (fun _ _ x=>x.fr k)
 ·rw[e2];exact h.ss.rM (fun _ x=>k.own x bV) (fun _ _ x=>x)
 ·rw[e3];exact h.nm.rM k.rM
 ·rw[e4];exact h.cd.rM (fun _ x=>k.own x bV) (fun _ _ x=>x.rM k.rM)
 ·rw[e5];exact k.own h.as_ bV
 ·obtain⟨q1,q2,q3,q4,q5⟩:=h.eq;exact⟨f1.trans q1,f2.trans q2,f3.trans q3,hr2,by rw[e7];exact q5⟩
theorem yq.put(h:yq w0 w b g gl D c n){c':Hc}(hg:w.grownBy w' (some g))(O:HK w g T c)(hk':HK w' g T c')(e:c'.vh=c.vh/\c'.vs=c.vs/\c'.nv=c.nv/\c'.cv=c.cv/\c'.av=c.av/\c'.tv=c.tv/\c'.vv=c.vv)(hf:c'.gl=c.gl/\c'.fam=c.fam/\c'.turn=c.turn)(hbg:∀m:Nat,m+(if c.pp=none then 0 else 2)<=2*c.bg->m+(if c'.pp=none then 0 else 2)<=2*c'.bg)(hr1:∃xs:List sg,C9 w c'.r1 xs)(hr2:c'.r2.oneCell'=true):yq w0 w' b g gl D c' n:=by
 obtain⟨e1,e2,e3,e4,e5,e6,e7⟩:=e;have k:Fr (wj w UU b) w w':=Fr.grown hg O.1 bV ⟨Nat.le_trans h.bl (Nat.le_of_lt h.lg),_,_,O.1,I⟩;obtain⟨l,htl,hll⟩:=h.td;exact h.upd k O hk' ⟨e1,e2,e3,e4,e5,e7⟩ hf ⟨l,by rw[e6];exact htl.rM (fun _ x=>k.OL x eH) (fun _ _ x=>x.fr k),hbg _ hll⟩ hr1 hr2
theorem yq.frG(h:yq w0 w b g gl D c n)(hg:w.grownBy w' (some g)):Fr (wj w UU b) w w':=by
 obtain⟨L,O⟩:=h.sD;exact Fr.grown hg O bV ⟨Nat.le_trans h.bl (Nat.le_of_lt h.lg),_,_,O,I⟩
end
def sR(lo:Nat)(w w':World):Prop:=∀i L,i<lo->N w i 106 L->N w' i 106 L
theorem sR.refl(lo:Nat)(w:World):sR lo w w:=fun _ _ _ h=>h
theorem sR.trans{c:World}(h:sR lo a b)(k:sR lo b c):sR lo a c:=fun i L hi x=>k i L hi (h i L hi x)
theorem sR.mono(h:sR lo a b)(E:lo'<=lo):sR lo' a b:=fun i L hi x=>h i L Y x
theorem sR.G(k:ao w w'):sR lo w w':=fun i L _ x=>x.G k x.lt
theorem sR.fr{p:TypeId->Prop}{b:Nat}(k:Fr (wj w p b) w w')(h:¬p 106):sR lo w w':=fun i L _ x=>k.sD x (wj.not x h)
theorem sR.ous{lo':Nat}{l:List Ou}(k:sR w.heap.size w w')(h:tf lo w v l):tf lo w' v l:=by
 obtain⟨css,U,F⟩:=h;refine⟨css,⟨U.1,?_⟩,F⟩;rcases U.2 with h|⟨g,cap,cur,hv,hB,hg,r⟩
 ·exact .inl h
 ·have Z:N w g 106 cur.toList:=hg;have:=k g cur.toList Z.lt Z;exact .inr ⟨g,cap,cur,hv,hB,this,r⟩
def zy(c:Hc):Int:=if c.ag then 4 else if c.nd then 2 else 3
theorem Pe{c:Hc}(h:HK w g T c):Calls prog 75 #[.pointer (some ⟨g,0,none⟩)] w (uQ (.int .i64 (zy c)) w):=by
 have d1:=h.ci 10 (u:=.bool c.ag) I;have d2:=h.ci 11 (u:=.bool c.nd) I;clear h;unfold zy;cases ha:c.ag with
 |true=>rw[ha]at d1;clear d2 ha;go_enter func75,ntmps75;exact mV
 |false=>
  rw[ha]at d1;cases hn:c.nd with
  |true=>rw[hn]at d2;clear ha hn;go_enter func75,ntmps75;exact mV
  |false=>rw[hn]at d2;clear ha hn;go_enter func75,ntmps75;exact mV
theorem wO.take{α:Type}{R:List Value->α->Prop}:∀(m:Nat) {css:List (List Value)} {l:List α},wO R css l->wO R (css.take m) (l.take m)
 |0,_,_,_=>by simp only[List.take_zero];exact trivial
 |m+1,[],[],_=>trivial
 |m+1,_::_,_::_,h=>⟨h.1,wO.take m h.2⟩
theorem rJ.take{α:Type}{R:List Value->α->Prop}{k:Nat}{A:Option Addr}{l:List α}(O:∀cs x,R cs x->cs.length=k)(h:rJ w Hh e k R (.slice A n c) l)(m:Nat)(hm:m<=l.length):rJ w Hh e k R (.slice A m c) (l.take m):=by
 obtain⟨css,U,F⟩:=h;have hE:=F.take m;have E:=zp O hE;have hml:(l.take m).length=m:=by rw[List.length_take];omega
 have hfl:css.flatten=(css.take m).flatten++(css.drop m).flatten:=by rw[<-List.flatten_append,List.take_append_drop]
 refine⟨css.take m,⟨E,?_⟩,hE⟩;rw[hml]at E⊢;rcases U.2 with⟨hv,h0⟩|⟨g,cap,cur,hv,hB,hg,hc,hmx,hs,ht⟩
 ·injection hv with q1 q2 q3;subst q1 q3;have:m=0:=Y;subst this;exact .inl ⟨I,I⟩
 ·
  injection hv with q1 q2 q3;subst q1 q3;refine .inr ⟨g,c,cur,I,hB,hg,Y,hmx,hs,?_⟩;have:cur.toList.take (m*k)=(cur.toList.take (l.length*k)).take (m*k):=by rw[List.take_take,Nat.min_eq_left (Nat.mul_le_mul_right _ hm)]
  rw[this,ht,hfl,List.take_left' E]
theorem rJ.cap{α:Type}{R:List Value->α->Prop}{k:Nat}{A:Option Addr}{l:List α}(h:rJ w Hh e k R (.slice A n c) l):n<=c/\n=l.length:=by
 obtain⟨css,U,F⟩:=h;rcases U.2 with⟨hv,h0⟩|⟨g,cap,cur,hv,hB,hg,hc,hmx,hs,ht⟩
 ·injection hv with q1 q2 q3;omega
 ·injection hv with q1 q2 q3;omega
def yQ(f:Int):Int:=if f=4\/f=6 then f else 0
def BP(D:Cg):List sg×List (List UInt8):=sQ D.hs D.nm (yQ D.fam)
def abG(D:Cg)(w:World)(e:Ending)(w':World):Prop:=∃vd A k c vn xs,e= .returned (.agg [.int .i64 vd,.slice A k c,vn,.int .i64 0].toArray)/\vn.oneCell'=true/\k=(xs:List sg).length/\C9 w' (.slice A k c) xs/\ao w w'/\(((BP D).1=[]/\vd=3)\/((BP D).1≠[]/\vd=1/\xs=(BP D).1.take 64/\tw w' vn (BP D).2))
theorem vE:(prog.info? 50).map (·.size)=some 4:=by kernel_rfl
theorem Yy(A:Option Addr)(n c:Nat)(vn:Value)(hvn:∃Hh m d,vn= .slice Hh m d)(W:World):(Instr.build 50 #[(0,.int .i64 1),(1,.slice A n c),(2,vn)]).run prog W= .ok (.agg [Value.int .i64 1,.slice A n c,vn,.int .i64 0].toArray) W:=by
 obtain⟨Hh,m,d,rfl⟩:=hvn;kernel_rfl
theorem UW{b gl:Nat}{D:Cg}{c:Hc}(h:yq w0 w b g gl D c n)(hp:KS D):Calls prog 70 #[.pointer (some ⟨g,0,none⟩)] w (abG D w):=by
 obtain⟨T,O,hr⟩:=h.k;obtain⟨Ah,ch,hvh⟩:=h.hs.form;obtain⟨An,cn,hnv,hNR⟩:=h.nm.form;have Z0:=N.new w 50 [.int .i64 0,rI,rI,.int .i64 0];have HZ:Below w.heap.size w (w.alloc (.cells #[.int .i64 0,.slice none 0 0,.slice none 0 0,.int .i64 0] 50)):=fZ;have FF:=J (fun fam V (hV:ao w V)=>Yt w0 Ah ch D.hs An cn D.nm fam V (by have:=(rJ.G (R':=sG w0 V) h.hs hV (fun _ _ x=>x.G hV));rw[hvh]at this;exact this.Ma (fun _ _ x=>sG.len x)) (rC h.ba h.ba.size hV) (hNR.G hV) hp.hs hp.E);have d15:(w.alloc (.cells #[.int .i64 0,.slice none 0 0,.slice none 0 0,.int .i64 0] 50)).cell? ⟨g,15,none⟩=some (.int .i64 D.fam):=(HZ.cell (p:=⟨g,15,none⟩) O.1.lt).trans (by rw[<-h.eq.2.1];exact O.ci 5 I);have d10:w.cell? ⟨g,10,none⟩=some (.slice Ah D.hs.length ch):=by rw[<-hvh];exact O.ci 0 I
 have d13:w.cell? ⟨g,13,none⟩=some (.slice An D.nm.length cn):=by rw[<-hnv];exact O.ci 3 I
 have aA:=O.1.lt;have LH:Hid (∀V,ao w V->(Instr.loadAt 22 (.pointer (some ⟨g,10,none⟩))).run prog V= .ok (.slice Ah D.hs.length ch) V):=J (fun V hV=>rQ underlying22 I ((hV.cell (p:=⟨g,10,none⟩) aA).trans d10));have LN:Hid (∀V,ao w V->(Instr.loadAt 24 (.pointer (some ⟨g,13,none⟩))).run prog V= .ok (.slice An D.nm.length cn) V):=J (fun V hV=>rQ underlying24 I ((hV.cell (p:=⟨g,13,none⟩) aA).trans d13));obtain⟨ahk,hF⟩:=aq (BP D);have HF2:Hid (sQ D.hs D.nm (yQ D.fam)=ahk):=J hF.out;unfold abG;rw[hF.out];have FF2:=J (FF.out (yQ D.fam));rw[HF2.out]at FF2;unfold aef at FF2;have hdh:D.hs.length<=1000:=hp.E;have FT:=J (Fm D.nm (yQ D.fam) D.hs);rw[HF2.out]at FT;have hFl:ahk.1.length<=1000:=Nat.le_trans FT.out hdh;have HFM:Hid (yQ D.fam=if D.fam=4\/D.fam=6 then D.fam else 0):=jO;clear h hp O hr hvh hnv hNR FF d10 d13 hF HF2 FT hdh;obtain⟨fm,hfm⟩:∃fm,yQ D.fam=fm:=gh;rw[hfm]at FF2 HFM;clear hfm;generalize D.fam=f0,D.hs.length=nh,D.nm.length=nn at*;have anI:(f0=4/\fm=4)\/(f0=6/\fm=6)\/((f0 !=4)=true/\(f0 !=6)=true/\fm=0):=by
  by_cases h4:f0=4
  ·exact .inl ⟨h4,by rw[HFM.out,if_pos (.inl h4)];exact h4⟩
  by_cases h6:f0=6
  ·exact .inr (.inl ⟨h6,by rw[HFM.out,if_pos (.inr h6)];exact h6⟩)
  ·exact .inr (.inr ⟨by simpa using h4,by simpa using h6,by rw[HFM.out,if_neg Y]⟩)
 clear HFM;obtain⟨W,hW⟩:=aq (w.alloc (.cells #[.int .i64 0,.slice none 0 0,.slice none 0 0,.int .i64 0] 50));rw[show(w.alloc (.cells [Value.int .i64 0,rI,rI,.int .i64 0].toArray 50))=W from hW.out]at Z0;have HZ1:=J HZ;rw[hW.out]at HZ1;rcases anI with⟨rfl,rfl⟩|⟨rfl,rfl⟩|⟨q1,q2,rfl⟩;all_goals
  go_enter func70,ntmps70;go_wp2_with fail;rw[hW.out];refine wp_region_held_drew (S:=fun V=>ao w V) (by kernel_rfl) HZ1.out.drew (fun hS=>?_);refine rS hS 10 [0,1,2,3,4,5,6,7,8,9] I (by kernel_rfl) (fun _ _ _ _ _ h=>h) I I ?_
  (refine ak (.pointer (some ⟨g,0,none⟩)) ?_;simp only[X])
  (refine ak (.pointer (some ⟨g,0,none⟩)) ?_;simp only[X])
  (refine ak (.pointer (some ⟨g,0,none⟩)) ?_;simp only[X])
  (refine ak (.pointer (some ⟨g,10,none⟩)) ?_;simp only[X])
  (refine aj _ I I (fun V hV=>(rX 22 (.tmp 20) ⟨g,10,none⟩ I I (LH.out V hV))) ?_;simp only[X])
  (refine ak (.pointer (some ⟨g,0,none⟩)) ?_;simp only[X])
  (refine ak (.pointer (some ⟨g,0,none⟩)) ?_;simp only[X])
  (refine ak (.pointer (some ⟨g,13,none⟩)) ?_;simp only[X])
  (refine aj _ I I (fun V hV=>(rX 24 (.tmp 24) ⟨g,13,none⟩ I I (LN.out V hV))) ?_;simp only[X])
  (refine ak (.int .i64 _) ?_;simp only[X])
  simp only[sS];refine su 10 (some 27) 92 _ (by kernel_rfl) I I (by kernel_rfl) bc (FF2.out _ hS) ?_;rintro _ w2 ⟨A,cc,vn,rfl,hO,hT,b2⟩;have hS2:=rC hS hS.size b2;have HO:=J hO;have HT:=J hT;have Z2:=(Z0.G (rC ((Below.refl _ _).drew) (Nat.le_refl _) b2) Z0.lt);obtain⟨An2,cn2,hvn,-,-⟩:=hT.form;subst hvn;have hkc:=hO.cap.1;clear hO hT;obtain⟨m2,hm2⟩:∃m2,ahk.2.length=m2:=gh;rw[hm2]at HT⊢;have RB:=J (fun n V=>Yy A n cc (.slice An2 m2 cn2) ⟨_,_,_,I⟩ V);clear hm2;refine⟨_,I,hS2,?_⟩;clear hS b2;have hS:=hS2;clear hS2;obtain⟨k,hkk⟩:=aq ahk.1.length;rw[hkk.out]at hFl HO hkc⊢;simp only[X];refine rS hS 5 [11,12,13,14,15] I (by kernel_rfl) (fun _ _ _ _ _ h=>h) I I ?_
  (refine ak (.tuple #[.slice A k cc,.slice An2 m2 cn2]) ?_;simp only[X])
  (refine ak (.slice A k cc) ?_;simp only[X])
  (refine ak (.slice An2 m2 cn2) ?_;simp only[X])
  (refine ak (.slice A k cc) ?_;simp only[X])
  (refine ak (.slice An2 m2 cn2) ?_;simp only[X])
  simp only[sS];refine wpAnyH_done (by kernel_rfl) ?_ _;clear LH LN FF2 d15 HZ1 HZ;by_cases h0:k=0
  ·
   subst h0;have RB3:=J (fun V=>CU 3 V);have HE:Hid (ahk.1=[]):=J (List.length_eq_zero_iff.1 hkk.out);clear RB;go_wp2_with(first
    |(refine rF (.build 50 #[(0,.const (.int .i64 3))]) rfl ?_;go_must(refine sy rfl 50 _ rfl #[(0,.int .i64 3)] cY (RB3.out _) ?_))
    |(refine rF (.store 50 (.tmp 2) (.tmp 33)) rfl (ab rfl w.heap.size 0 [.int .i64 3,rI,rI,.int .i64 0] Z2 (Nat.le_refl 4) vE dX ?_)))
   intro w3 B3 g3 sw;have B3':N w3 w.heap.size 50 [.int .i64 3,rI,rI,.int .i64 0]:=jz;have H3:=J (rE hS g3 hS.size (Nat.le_refl _));clear B3 g3 sw hS Z2 Z0 RB3 HO;go_wp2_with fail;refine tx I w.heap.size I B3' _ underlying50 I vE I ?_;exact⟨_,_,_,_,_,[],I,I,I,⟨rJ.nil _ _ _ _ _,ar⟩,H3.out,.inl ⟨HE.out,I⟩⟩
  ·
   have h0':((k:Int)==0)=false:=gL;have HNE:Hid (ahk.1≠[]):=J (fun c=>h0 (by rw[<-hkk.out,c];rfl));clear h0;by_cases h64:k<=64
   case pos=>
    have asa:(k:Int)<=64:=Y;have HTK:Hid (ahk.1.take 64=ahk.1):=J (List.take_of_length_le (by rw[hkk.out];exact h64));have RB1:=J (fun V=>RB.out k V);clear RB h64;go_wp2_with(first
     |(refine rF (.build 50 #[(0,.const (.int .i64 1)),(1,.tmp 38),(2,.tmp 39)]) rfl ?_;go_must(refine sy rfl 50 _ rfl #[(0,.int .i64 1),(1,.slice A k cc),(2,.slice An2 m2 cn2)] cY (RB1.out _) ?_))
     |(refine rF (.store 50 (.tmp 2) (.tmp 40)) rfl (ab rfl w.heap.size 0 [.int .i64 1,.slice A k cc,.slice An2 m2 cn2,.int .i64 0] Z2 (Nat.le_refl 4) vE aO ?_)))
    intro w3 B3 g3 sw;have B3':N w3 w.heap.size 50 [.int .i64 1,.slice A k cc,.slice An2 m2 cn2,.int .i64 0]:=jz;have H3:=J (rE hS g3 hS.size (Nat.le_refl _));have O3:=J (HO.out.sD g3 Z2 K);have T3:=J (HT.out.grown g3 Z2 K);clear B3 g3 sw hS Z2 Z0 RB1 HO HT;go_wp2_with fail;refine tx I w.heap.size I B3' _ underlying50 I vE I ?_;exact⟨_,_,_,_,_,ahk.1,I,I,hkk.out.symm,⟨O3.out,by rw[hkk.out];omega⟩,H3.out,.inr ⟨HNE.out,I,HTK.out.symm,T3.out⟩⟩
   case neg=>
    have asa:¬(k:Int)<=64:=Y;have RB1:=J (fun V=>RB.out 64 V);have aMb:64<=cc:=Y;have HO6:=J (rJ.take (fun _ _ h=>xH.len h) HO.out 64 (by rw[hkk.out];omega));have H64:Hid ((ahk.1.take 64).length=64):=J (by rw[List.length_take,hkk.out];omega);clear RB h64 HO;go_wp2_with(first
     |(refine rF (.build 50 #[(0,.const (.int .i64 1)),(1,.tmp 38),(2,.tmp 39)]) rfl ?_;go_must(refine sy rfl 50 _ rfl #[(0,.int .i64 1),(1,.slice A 64 cc),(2,.slice An2 m2 cn2)] cY (RB1.out _) ?_))
     |(refine rF (.store 50 (.tmp 2) (.tmp 40)) rfl (ab rfl w.heap.size 0 [.int .i64 1,.slice A 64 cc,.slice An2 m2 cn2,.int .i64 0] Z2 (Nat.le_refl 4) vE aO ?_)))
    intro w3 B3 g3 sw;have B3':N w3 w.heap.size 50 [.int .i64 1,.slice A 64 cc,.slice An2 m2 cn2,.int .i64 0]:=jz;have H3:=J (rE hS g3 hS.size (Nat.le_refl _));have O3:=J (HO6.out.sD g3 Z2 K);have T3:=J (HT.out.grown g3 Z2 K);clear B3 g3 sw hS Z2 Z0 RB1 HO6 HT;go_wp2_with fail;refine tx I w.heap.size I B3' _ underlying50 I vE I ?_;exact⟨_,_,_,_,_,ahk.1.take 64,I,I,H64.out.symm,⟨O3.out,by rw[H64.out];exact Nat.le_refl 64⟩,H3.out,.inr ⟨HNE.out,I,I,T3.out⟩⟩
def UX(s:Src)(j:Nat):Bool:=match j with|0=>s.a|1=>s.b|2=>s.c|_=>s.d
def yT(l:List Src)(i:Nat):Src:=l.getD i ⟨0,false,false,false,false⟩
def Hs(l:List Src)(p:Nat)(vd:Int):Bool:=decide (l.length<=p+1)||UX (yT l p) (stat (CW vd))
theorem adQ{A:Option Addr}{l:List Src}(h:rJ w Hh 86 5 uK (.slice A l.length c) l):afd w A l.length (fun i=>(yT l i).kd) (fun i j=>UX (yT l i) j):=by
 intro hp;obtain⟨g,U,F,h3⟩:=h.rU (fun cs x h=>by rw[h];rfl) hp;refine⟨g,0,U,F,fun i hi=>?_⟩;obtain⟨cs,hc,he⟩:=h3 i hi;have e:yT l i=l[i]:=by unfold yT;rw[List.getD_eq_getElem?_getD,List.getElem?_eq_getElem hi];rfl
 have he2:cs=Jx l[i]:=he;rw[he2]at hc;refine⟨?_,fun j hj=>?_⟩
 ·simp only[e];simpa using hc 0 _ I
 ·
  simp only[e];have hj4:j=0\/j=1\/j=2\/j=3:=Y;rcases hj4 with rfl|rfl|rfl|rfl
  ·have:=hc 1 _ I;simpa[Nat.add_assoc,UX]using this
  ·have:=hc 2 _ I;simpa[Nat.add_assoc,UX]using this
  ·have:=hc 3 _ I;simpa[Nat.add_assoc,UX]using this
  ·have:=hc 4 _ I;simpa[Nat.add_assoc,UX]using this
theorem Nn{A:Option Addr}{l:List Src}(h:rJ w Hh 86 5 uK (.slice A l.length c) l)(E:l.length<=1000)(p:Nat)(vd:Int):
  Calls prog 90 #[.slice A l.length c,.int .i64 p,.int .i64 (CW vd)] w (uQ (if Hs l p vd then .tuple #[.int .i64 0,.bool false]else .tuple #[.int .i64 ((p:Int)+1),.bool true]) w):=by
 have hS:=adQ h;unfold Hs;by_cases U:l.length<=p+1
 ·rw[decide_eq_true U,Bool.true_or,if_pos I];exact abu A l.length c p _ w Y (.inr Y)
 ·
  rw[decide_eq_false U,Bool.false_or];cases F:UX (yT l p) (stat (CW vd))with
  |true=>rw[if_pos I];exact UI A l.length c _ _ p _ w Y hS Y Y eI
  |false=>rw[if_neg K];exact Yk A l.length c _ _ p _ w Y hS Y Y eI
def vG(hb:Value->World->Prop)(e:Ending)(w':World):Prop:=∃v,e= .returned v/\hb v w'
theorem Kg{A:Option Addr}(h:w.ownsRow g 3 1 (.slice A (n+1) c) (n+1) (Bi (Gv (n+1)))):∃bA,A=some ⟨bA,0,none⟩/\bA<w.heap.size/\w.cell? ⟨bA,n,none⟩=some (.int .i64 (n:Int)):=by
 obtain⟨bA,M,rfl,hM,hT,_⟩:=wU h Y eJ;refine⟨bA,I,hM.lt,hM.rD _ ?_⟩;have:(M.take ((n+1)*1))[n]?=some (.int .i64 (n:Int)):=by rw[hT];simp[Bi,Nm,Sm]
 rwa[List.getElem?_take_of_lt Y]at this
theorem Gw:(prog.info? 4).map (·.size)=some 1:=by kernel_rfl
section
variable {w0 w:World} {b g gl n:Nat} {D:Cg} {c:Hc}
theorem Fo(h:yq w0 w b g gl D c (n+1))(hp:KS D)(vd:Int)(r1 r2:Value)(r3:Int)(hr1:∃xs:List sg,C9 w r1 xs)(hr2:r2.oneCell'=true)(hnl:n<D.ss.length)(hs:Hs D.ss n vd=true):
  Calls prog 69 #[.pointer (some ⟨g,0,none⟩),.agg [.int .i64 vd,r1,r2,.int .i64 r3].toArray] w (vG (fun v w'=>v= .slice none 0 0/\yq w0 w' b g gl D {c with dn:=true,r0:=vd,r1:=r1,r2:=r2,r3:=r3} (n+1)/\Fr (wj w UU b) w w')):=by
 have Z0:=N.new w 50 [.int .i64 vd,r1,r2,.int .i64 r3];have HZ:Below w.heap.size w (w.alloc (.cells [.int .i64 vd,r1,r2,.int .i64 r3].toArray 50)):=fZ;obtain⟨xs,hxs⟩:=hr1;have hr1:r1.oneCell'=true:=jG;obtain⟨T,O,hr⟩:=h.k;obtain⟨As,cs,hvs⟩:=h.ss.form;obtain⟨Aa,ca,hva⟩:=tp h.as_;have hA:=h.as_;rw[hva]at hA;obtain⟨bA,rfl,hbA,cA⟩:=Kg hA;have hsl:=hp.sl;have hn8:(n:Int)<=8:=Y;have HSS:=J h.ss;rw[hvs]at HSS;have NX:=J (fun W (hW:ao w W)=>by
  have:=Nn (rJ.G (R':=uK) HSS.out hW (fun _ _ x=>x)) Y n vd;rw[hs,(if_pos I)]at this;exact this)
 have d11:=O.ci 1 (u:=.slice As D.ss.length cs) eK;have d18:=O.ci 8 (u:=.slice (some ⟨bA,0,none⟩) (n+1) ca) (by rw[<-hva];rfl);have e11:=(HZ.cell (p:=⟨g,11,none⟩) O.1.lt).trans d11;have e18:=(HZ.cell (p:=⟨g,18,none⟩) O.1.lt).trans d18;have eA:=(HZ.cell (p:=⟨bA,n,none⟩) hbA).trans cA;have z0:=Z0.rD 0 I;clear d11 d18 cA;have ST:=J (fun W=>J8 vd W);have HXS:=J hxs;have HAT:=Lib.hid h;have HZ1:=J HZ;have hg1:g≠w.heap.size:=Nat.ne_of_lt O.1.lt;have HKK:=J O;obtain⟨W,hW⟩:=aq (w.alloc (.cells [Value.int .i64 vd,r1,r2,.int .i64 r3].toArray 50));rw[hW.out]at Z0 HZ1 e11 e18 eA z0;clear hxs h O hr hvs hva hA HSS HZ;go_enter func69,ntmps69;go_wp2_with fail;rw[hW.out];go_quiet((first|(go_at_call 91;exact uQ.quiet (ST.out _))|(go_at_call 90;exact uQ.quiet (NX.out _ (below_drewN HZ1.out _)))));obtain⟨W1,hW1⟩:∃W1,W1=W.drewN nq:=gh;rw[<-hW1];have H1:ao w W1:=hW1▸below_drewN HZ1.out _;have Z1:N W1.drew w.heap.size 50 [.int .i64 vd,r1,r2,.int .i64 r3]:=by rw[hW1];exact(Z0.drewN nq).drew
 have K1:HK W1.drew g T c:=HKK.out.G H1.drew;clear hW1 hW z0 eA e18 e11 Z0 HZ1 NX ST HKK;go_wp2_with fail;refine wp_region_held_drew (S:=fun V=>N V w.heap.size 50 [.int .i64 vd,r1,r2,.int .i64 r3]) (by kernel_rfl) Z1 (fun hS=>?_);refine rS hS 5 [0,1,2,3,4] I (by kernel_rfl) (fun _ _ _ _ _ h=>h) I I ?_
 (refine ak (.pointer (some ⟨g,0,none⟩)) ?_;simp only[X])
 (refine ak (.pointer (some ⟨g,0,none⟩)) ?_;simp only[X])
 (refine aj _ I I (fun V hV=>(rX 50 (.tmp 3) ⟨w.heap.size,0,none⟩ I I (hV.tW 50 0 4 (Nat.le_refl 4) _ underlying50 I vE [.int .i64 vd,r1,r2,.int .i64 r3] I))) ?_;simp only[X])
 (refine ak (.pointer (some ⟨g,0,none⟩)) ?_;simp only[X])
 (refine ak (.pointer (some ⟨g,26,none⟩)) ?_;simp only[X])
 simp only[sS];refine rV 5 (by kernel_rfl) ?_;refine ur 5 4 (.tmp 37) (.const (.bool true)) I I I (by kernel_rfl) g 26 I (.bool true) I K1.1 (by rw[K1.len];decide) Gw I I ?_;intro w7 B7 g7 s7;have K7:HK w7 g T {c with dn:=true}:=K1.put 16 B7 I;have Z7:=hS.grown g7 eL;refine⟨Z7,?_⟩;clear hS;have hS:=Z7;simp only[X];refine rS hS 2 [6,7] I (by kernel_rfl) (fun _ _ _ _ _ h=>h) I I ?_
 (refine ak (.pointer (some ⟨g,0,none⟩)) ?_;simp only[X])
 (refine ak (.pointer (some ⟨g,27,none⟩)) ?_;simp only[X])
 simp only[sS];have w1:∀v∈[Value.int .i64 vd,r1,r2,.int .i64 r3],v.oneCell'=true:=by
  intro v hv;simp only[List.mem_cons,List.not_mem_nil,or_false]at hv;rcases hv with rfl|rfl|rfl|rfl
  ·rfl
  ·exact hr1
  ·exact hr2
  ·rfl
 refine rV 8 (by kernel_rfl) ?_;refine OP 8 50 (.tmp 39) (.tmp 35) I I I (by kernel_rfl) g 27 I [.int .i64 vd,r1,r2,.int .i64 r3] I K7.1 (by rw[K7.len];exact Nat.le_refl 31) vE w1 ?_;intro w8 B8 g8 s8;have K8:HK w8 g T {c with dn:=true,r0:=vd,r1:=r1,r2:=r2,r3:=r3}:=K7.agh 17 B8 I;have G8:=rO g7 g8 (.inl I);have A1:=HAT.out.G H1.drew;have A8:=J (A1.put (c':={c with dn:=true,r0:=vd,r1:=r1,r2:=r2,r3:=r3}) G8 K1 K8 ⟨I,I,I,I,I,I,I⟩ ⟨I,I,I⟩ (fun _ x=>x) ⟨xs,HXS.out.G H1.drew⟩ hr2);have F8:=J (Fr.uP (Fr.G H1.drew) (A1.frG G8));refine⟨Z7.grown g8 eL,?_⟩;simp only[X];refine wpAnyH_done (by kernel_rfl) ?_ _;clear hS Z7 Z1 K1 K7 K8 g7 g8 G8 A1 B7 B8;go_wp2_with fail;go_ret;exact⟨_,I,I,A8.out,F8.out⟩
theorem Fp(h:yq w0 w b g gl D c (n+1))(hp:KS D)(vd:Int)(r1 r2:Value)(r3:Int)(hr1:∃xs:List sg,C9 w r1 xs)(hnl:n<D.ss.length)(hs:Hs D.ss n vd=false)(hb:Value->World->Prop)
  (AK:∀W,ao w W->Calls prog 37 #[.pointer (some ⟨g,0,none⟩),.int .i64 ((n:Int)+1)] W (vG hb)):
  Calls prog 69 #[.pointer (some ⟨g,0,none⟩),.agg [.int .i64 vd,r1,r2,.int .i64 r3].toArray] w (vG hb):=by
 have HAK:=J AK;clear AK;have Z0:=N.new w 50 [.int .i64 vd,r1,r2,.int .i64 r3];have HZ:Below w.heap.size w (w.alloc (.cells [.int .i64 vd,r1,r2,.int .i64 r3].toArray 50)):=fZ;obtain⟨xs,hxs⟩:=hr1;have hr1:r1.oneCell'=true:=jG;obtain⟨T,O,hr⟩:=h.k;obtain⟨As,cs,hvs⟩:=h.ss.form;obtain⟨Aa,ca,hva⟩:=tp h.as_;have hA:=h.as_;rw[hva]at hA;obtain⟨bA,rfl,hbA,cA⟩:=Kg hA;have hsl:=hp.sl;have hn8:(n:Int)<=8:=Y;have HSS:=J h.ss;rw[hvs]at HSS;have NX:=J (fun W (hW:ao w W)=>by
  have:=Nn (rJ.G (R':=uK) HSS.out hW (fun _ _ x=>x)) Y n vd;rw[hs,(if_neg K)]at this;exact this)
 have d11:=O.ci 1 (u:=.slice As D.ss.length cs) eK;have d18:=O.ci 8 (u:=.slice (some ⟨bA,0,none⟩) (n+1) ca) (by rw[<-hva];rfl);have e11:=(HZ.cell (p:=⟨g,11,none⟩) O.1.lt).trans d11;have e18:=(HZ.cell (p:=⟨g,18,none⟩) O.1.lt).trans d18;have eA:=(HZ.cell (p:=⟨bA,n,none⟩) hbA).trans cA;have z0:=Z0.rD 0 I;clear d11 d18 cA;have ST:=J (fun W=>J8 vd W);have HXS:=J hxs;have HAT:=Lib.hid h;have HZ1:=J HZ;have hg1:g≠w.heap.size:=Nat.ne_of_lt O.1.lt;have HKK:=J O;obtain⟨W,hW⟩:=aq (w.alloc (.cells [Value.int .i64 vd,r1,r2,.int .i64 r3].toArray 50));rw[hW.out]at Z0 HZ1 e11 e18 eA z0;clear hxs h O hr hvs hva hA HSS HZ;go_enter func69,ntmps69;go_wp2_with fail;rw[hW.out];go_quiet((first|(go_at_call 91;exact uQ.quiet (ST.out _))|(go_at_call 90;exact uQ.quiet (NX.out _ (below_drewN HZ1.out _)))));have AK1:=J (HAK.out _ (below_drewN HZ1.out nq));unfold vG at AK1;clear hW z0 eA e18 e11 Z0 HZ1 NX ST HKK HAT HAK HXS;go_wp2_with fail;refine AK1.out.mono ?_;rintro _ w2 ⟨v,rfl,hq⟩;have HQ:=J hq;clear AK1 hq;go_wp2_with fail;go_ret;exact⟨v,I,HQ.out⟩
end
structure HsN (D:Cg) (c:Hc) (n:Nat):Prop where
 an:n<=D.ss.length
 bg:c.bg<=7*(n-1)+c.next
 nx:c.next<=D.cd.length
structure Kh (w0 w:World) (b g gl:Nat) (D:Cg) (c:Hc) (n:Nat) (L:Lt) (h2 TK:Nat):Prop where
 rU:yq w0 w b g gl D c n
 lt:sE w gl L
 nm:HsN D c n
 us:L.us<=4*(h2+c.bg)
 ds:L.ds.length<=17592186044416
 tk:TK<=2*sm D.r*c.bg
 sn:c.r6<=2*uD D.r*c.bg
 pp:c.pp=none
 dn:c.dn=false
structure KT (w0 w:World) (b g gl:Nat) (D:Cg) (c:Hc) (n:Nat) (L:Lt) (h2 TK H:Nat) (dp:Bool):Prop where
 rU:yq w0 w b g gl D c n
 lt:sE w gl L
 nm:HsN D c n
 ds:L.ds.length<=17592186044416
 sn:c.r6+2*uD D.r<=2*uD D.r*c.bg
 dn:c.dn=false
 pr:∃gp hk p tk k,c.pp=some gp/\yF w0 w b gp gl hk p/\PI p L tk k H/\goP p/\yh p=dp/\p.nm.length<=100000/\p.tys=tU D.fam/\p.r=rT D.r/\TK+2*sm D.r<=2*sm D.r*c.bg+tk/\tk<=2*sm D.r/\k+1<=h2+c.bg
structure Sn (w0 w:World) (b g gl:Nat) (D:Cg) (c:Hc) (n:Nat):Prop where
 rU:yq w0 w b g gl D c n
 nm:HsN D c n
 sn:c.r6<=2*uD D.r*c.bg
 dn:c.dn=true
 pp:c.pp=none
 vd:1<=c.r0/\c.r0<=5
theorem GB(r:Rs):uD (rT r)=uD r:=by unfold uD;rw[AJ,AJ,Hm]
theorem adT(f:Int):(∀t∈tU f,t=1\/t=28)/\0<(tU f).length:=by
 unfold tU;refine⟨fun t ht=>?_,?_⟩
 ·exact rh
 ·
  by_cases h6:f=6
  ·subst h6;decide
  ·rw[if_neg h6];simp
theorem HsN.b56{D:Cg}{c:Hc}(h:HsN D c n)(hp:KS D):c.bg<=63:=by
 have U:=h.an;have F:=h.bg;have h3:=h.nx;have h4:=hp.sl;have h5:=hp.cl;omega
theorem Ki{α:Type}{R:List Value->α->Prop}(O:∀cs x,R cs x->∀u∈cs,u.oneCell'=true):∀{css:List (List Value)} {l:List α},wO R css l->∀u∈css.flatten,u.oneCell'=true
 |[],[],_=>by simp
 |cs::css,x::l,h=>fun u hu=>by
  rcases List.mem_append.1 hu with hu|hu
  ·exact O _ _ h.1 u hu
  ·exact Ki O h.2 u hu
theorem Np{P:Program}{α:Type}{R:List Value->α->Prop}(w:World)(t Q:TypeId)(e:TypeId)(z:Value)(size bytes:Nat)(ht:P.underlying t=some (.slice e))(hi:(P.info? e).map (fun i=>(i.zero,i.size,i.bytes))=some (some z,size,bytes))(hzs:z.cells.size=size)(hsz:0<size)
  (Hh B2:Nat) (v v2:Value) (l l2:List α) (h:rJ w Hh e size R v l) (F:rJ w B2 e size R v2 l2) (hB:Hh<=w.heap.size) (O:∀cs x,R cs x->cs.length=size) (ho:∀cs x,R cs x->∀u∈cs,u.oneCell'=true) (h63:l.length+l2.length<=maxLen) (agH:(l.length+l2.length)*bytes<=140737488355328):
  ∃v' w',(Builtin.append_ #[t,t] Q #[v,v2]).run P w= .ok v' w'/\rJ w' Hh e size R v' (l++l2)/\w.grownBy w' v.ownBlock:=by
 obtain⟨css,ad1,hE⟩:=h;obtain⟨anV,aqe,hE2⟩:=F;obtain⟨A2,c2,rfl⟩:=tp aqe;have hl2:=zp O hE2;obtain⟨v',w',hr',h3,h4⟩:=Jk w t Q e z size bytes ht hi hzs hsz Hh v l.length css.flatten ad1 hB A2 l2.length c2 anV.flatten (fun hp=>by
  obtain⟨g,L,hA,Z,hL,_⟩:=wU aqe hp hl2;refine⟨g,0,hA,fun j v hv=>?_⟩;rw[Nat.zero_add];refine Z.rD j ?_;rw[<-hL]at hv;rw[List.getElem?_take]at hv;split at hv
  ·exact hv
  ·
   cases hv) hl2 (Ki ho hE2) h63 agH
 refine⟨v',w',hr',⟨css++anV,?_,JR hE hE2⟩,h4⟩;rw[List.flatten_append,List.length_append];exact h3
theorem Fr.new{c:World}(h:Fr S a b)(k:b.grownBy c (some g))(hg:a.heap.size<=g):Fr S a c:=
 ⟨k.os.trans h.os,k.tape.trans h.tape,k.output.trans h.output,Nat.le_trans h.size k.size,fun i hi=>by
  rcases h.block i hi with e|e
  ·exact .inl ((k.block i (Nat.lt_of_lt_of_le hi h.size) aB).trans e)
  ·
   exact .inr e⟩
theorem Ip.Ht{t:TypeId}{L:List Value}{m:Td}(h:Ip w cs m)(hg:w.grownBy w' (some g))(Z:N w g t L)(U:t≠160)(F:t≠201)(h3:t≠9):Ip w' cs m:=by
 obtain⟨vn,ds,e,n,m⟩:=h;exact⟨vn,ds,e,n.rM (rZ.sD hg Z h3),m.Ht hg Z U F h3⟩
def LvH(w0:World)(b g gl:Nat)(D:Cg)(c:Hc)(n:Nat)(L:Lt)(h2 TK:Nat)(w:World)(e:Ending)(w':World):Prop:=∃vd va vn ttl xs c',e= .returned (.agg [.int .i64 vd,va,vn,.int .i64 ttl].toArray)/\1<=vd/\vd<=5/\C9 w' va xs/\vn.oneCell'=true/\Kh w0 w' b g gl D c' n L h2 TK/\c'.bg=c.bg/\c'.next=c.next/\c'.ag=c.ag/\c'.nd=c.nd/\Below b w w'/\sR w.heap.size w w'
def Fq(t:TypeId):Prop:=t=91\/t=186
theorem V6:(prog.info? 89).map (·.size)=some 1:=by kernel_rfl
theorem So:(prog.info? 88).map (·.size)=some 1:=by kernel_rfl
section
variable {w0 w:World} {b g gl n:Nat} {D:Cg} {c:Hc}
theorem UY(L:Lt)(h2 TK H:Nat)(h:KT w0 w b g gl D c n L h2 TK H true)(hp:KS D)(hbw:b<=w.heap.size):
  Calls prog 74 #[.pointer (some ⟨g,0,none⟩)] w (LvH w0 b g gl D c n L h2 TK w):=by
 obtain⟨gp,hk,p,tk,k,hpp,hPA,hPI,hgo,hd,hnm,hty,hr,htk,ale,O⟩:=h.pr;have akR:p.bg.length<=2:=Nat.le_trans hPI.bl hPI.tl;obtain⟨y1,y2⟩:=adT D.fam;have Z0:=N.new w 50 [.int .i64 0,rI,rI,.int .i64 0];have HZ:Below w.heap.size w (w.alloc (.cells #[.int .i64 0,.slice none 0 0,.slice none 0 0,.int .i64 0] 50)):=fZ;have PR:=J (RY (hPA.G hbw HZ) hPI (by rw[hty];exact y1) hnm hd (by rw[hty];exact y2) (Nat.le_trans hbw HZ.size));have PT:=J (fun V (hV:ao w V)=>MU (hPA.G hbw hV) (fun i x hx=>(hPI.ea i x hx).q) hPI.bl akR);have PS:=J (fun V (hV:Fr (wj w Fq b) w V)=>Yf (hPA.yu hV (Nat.le_refl b) hbw eM eM eM eM) (fun x hx=>by
  obtain⟨i,hi⟩:=List.getElem?_of_mem hx;have:=(hPI.ea i x hi).s45;omega) akR)
 have aAK:Ho p<=2*uD D.r:=by have:=hPI.r6;rw[hr,GB]at this;exact Nat.le_trans this (Nat.mul_le_mul_right _ akR)
 have hTl:(yi p.bg).length<=2:=by exact qK
 unfold Iq at PR;unfold OT at PT;have hus:L.us<=4*(h2+c.bg):=by have:=hPI.us;omega
 have hsn:=h.sn;have hbg:=h.nm.b56 hp;have aAL:=(Ff D.r).2;have asF:Hid (c.r6+Ho p<=2*uD D.r*c.bg/\TK<=2*sm D.r*c.bg):=J ⟨Y,Y⟩;have hs1:c.r6<=10000:=by have:2*uD D.r*c.bg<=90*63:=Nat.mul_le_mul Y hbg;omega
 have hs2:Ho p<=90:=Y;obtain⟨T,hK,_⟩:=h.rU.k;obtain⟨tl,htl,auC⟩:=h.rU.td;obtain⟨At,ct,hvt⟩:=htl.form;have d23:=hK.ci 13 (u:=.pointer (some ⟨gp,0,none⟩)) eO;have e23:=(HZ.cell (p:=⟨g,23,none⟩) hK.1.lt).trans d23;have HAT:=J h.rU;have HLT:=J h.lt;have HKK:=J hK;have HTL:=J htl;have HNM:=J h.nm;have HDS:=J h.ds;have HDN:=J h.dn;have HUS:=J hus;rw[hvt]at htl;have HTV:=J htl;have hgl:=h.rU.lg;have aMh:=h.rU.bl;have ame:=hK.1.lt;obtain⟨ns,hns⟩:=aq (Ho p);rw[hns.out]at PS hs2 asF;obtain⟨TT,hTT⟩:=aq (yi p.bg);rw[hTT.out]at PT hTl;have HVT:=J hvt;have HPP:=J hpp;clear h hp hPA hPI hgo hd hnm hty hr htk ale O y1 y2 hK htl d23 hus hsn aAL akR aAK hvt hns hTT hpp;go_enter func74,ntmps74;go_wp2_with fail;refine PR.out.mono ?_;rintro _ B ⟨vd,va,vn,ttl,xs,rfl,hvn,hOx,hRP,b1⟩;obtain⟨Ax,cx,hva⟩:=hOx.form;subst hva;have Z1:=Z0.G b1 Z0.lt;have H1:=rC HZ HZ.size b1;have auz:1<=vd/\vd<=5:=⟨hRP.1,hRP.2.1⟩;have w1:∀u∈[Value.int .i64 vd,.slice Ax xs.length cx,vn,.int .i64 ttl],u.oneCell'=true:=by exact nX
 have HOX:=J hOx;have hxl:xs.length<=64:=hRP.2.2.2.2.1;clear PR b1 hRP hOx Z0 HZ e23;have Y1:=N.new B 50 [.int .i64 0,rI,rI,.int .i64 0];have k1:Below B.heap.size B (B.alloc (.cells #[.int .i64 0,.slice none 0 0,.slice none 0 0,.int .i64 0] 50)):=fZ;go_wp2_with(refine rF (.store 50 (.tmp 3) (.tmp 8)) I (ab I B.heap.size 0 [.int .i64 vd,.slice Ax xs.length cx,vn,.int .i64 ttl] Y1 (Nat.le_refl 4) vE w1 ?_));intro w2 B2 g2 sw;clear sw;have B2':N w2 B.heap.size 50 [.int .i64 vd,.slice Ax xs.length cx,vn,.int .i64 ttl]:=by simpa using B2
 have k2:=rE k1 g2 k1.size (Nat.le_refl _);have H2:=rC H1 H1.size k2;have O2:=J (rJ.G (R':=xH) HOX.out k2 (fun _ _ x=>x));have Z2:=Z1.G k2 Z1.lt;obtain⟨gr,hgr⟩:=aq B.heap.size;rw[hgr.out]at B2'⊢;have aLO:w.heap.size<gr:=by rw[<-hgr.out];exact Z1.lt
 have hgg:g≠gr:=Y;clear B2 g2 k1 k2 Y1 Z1 H1 HOX;have K2:=J (HKK.out.G H2);have LTD:Hid (∀V,ao w2 V->(Instr.loadAt 89 (.pointer (some ⟨g,24,none⟩))).run prog V= .ok (.slice At tl.length ct) V):=J (fun V hV=>rQ underlying89 I ((hV.cell (p:=⟨g,24,none⟩) K2.out.1.lt).trans (K2.out.ci 14 (by show some c.tv=_;rw[HVT.out]))));have LPP:Hid (∀V,ao w2 V->(Instr.loadAt 88 (.pointer (some ⟨g,23,none⟩))).run prog V= .ok (.pointer (some ⟨gp,0,none⟩)) V):=J (fun V hV=>rQ underlying88 I ((hV.cell (p:=⟨g,23,none⟩) K2.out.1.lt).trans (K2.out.ci 13 eP)));go_upto_region 3 with fail;go_cut[] (fun wx=>∃(vt:Value) (TL:List Td),Hid (HK wx g T {c with tv:=vt})/\Hid (yG wx g vt TL)/\TL.length<=tl.length+2/\Hid (uG wx 0 (.slice Ax xs.length cx) xs)/\N wx gr 50 [.int .i64 vd,.slice Ax xs.length cx,vn,.int .i64 ttl]/\N wx w.heap.size 50 [.int .i64 0,rI,rI,.int .i64 0]/\Hid (Fr (wj w Fq b) w wx))
 case first=>
  have d23:=K2.out.ci 13 (u:=.pointer (some ⟨gp,0,none⟩)) eP;refine wp_region_held_drew (S:=fun V=>V.cell? ⟨g,23,none⟩=some (.pointer (some ⟨gp,0,none⟩))) (by kernel_rfl) d23 (fun hS=>?_);refine rS hS 8 [0,1,2,3,5,6,7,8] I (by kernel_rfl) (fun _ _ _ _ _ h=>h) I I ?_
  (refine ak (.pointer (some ⟨g,0,none⟩)) ?_;simp only[X])
  (refine ak (.pointer (some ⟨g,0,none⟩)) ?_;simp only[X])
  (refine ak (.pointer (some ⟨g,0,none⟩)) ?_;simp only[X])
  (refine ak (.pointer (some ⟨g,24,none⟩)) ?_;simp only[X])
  (refine ak (.pointer (some ⟨g,0,none⟩)) ?_;simp only[X])
  (refine ak (.pointer (some ⟨g,0,none⟩)) ?_;simp only[X])
  (refine ak (.pointer (some ⟨g,23,none⟩)) ?_;simp only[X])
  (refine aj _ I I (fun V hV=>(rX 88 (.tmp 16) ⟨g,23,none⟩ I I (rQ underlying88 I hV))) ?_;simp only[X])
  simp only[sS];refine uZ 4 9 (by kernel_rfl) ?_ ?_
  ·
   refine uj 4 (some 13) 89 (.tmp 12) ⟨g,24,none⟩ I I I I (by kernel_rfl) (LTD.out _ (Below.refl _ _).drew) ?_;refine⟨hS,?_⟩;simp only[X];refine rV 9 (by kernel_rfl) ?_;refine sZ 9 (some 18) 94 #[.pointer (some ⟨gp,0,none⟩)] I I (by kernel_rfl) bc (PT.out _ H2.drew) ?_;rintro _ w4 ⟨v4,rfl,hO4,b4⟩;have b24:=rC ((Below.refl w2.heap.size w2).drew) (Nat.le_refl _) b4;have hS4:w4.cell? ⟨g,23,none⟩=some (.pointer (some ⟨gp,0,none⟩)):=kg;refine⟨_,I,hS4,?_⟩;simp only[X];have T4:=yG.G HTV.out (rC H2 H2.size b24);have K4:=K2.out.G b24;have B4:=B2'.G b24 B2'.lt;have Z4:=Z2.G b24 Z2.lt;have O4:=rJ.G (R':=xH) O2.out b24 (fun _ _ x=>x);obtain⟨v5,w5,hr5,O5,g5⟩:=Np (P:=prog) w4 89 89 186 _ 18 184 underlying89 Im (by kernel_rfl) K g _ _ v4 tl TT T4 hO4 (Nat.le_of_lt K4.1.lt) (fun _ _ x=>x.len) (fun _ _ x=>x.one) aL Y;have F5:Fr (wj w4 Fq b) w4 w5:=iZ;have T5:=O5.rM (R':=Ip w5) (fun _ x=>x) (fun _ _ x=>x.fr F5);have K5:HK w5 g T c:=mj;have B5:=rJ.wF T4 B4 K g5;have Z5:=rJ.wF T4 Z4 K g5;have hS5:w5.cell? ⟨g,23,none⟩=some (.pointer (some ⟨gp,0,none⟩)):=K5.ci 13 eP;obtain⟨A5,c5,hv5⟩:=T5.form;have hl5:(tl++TT).length<=tl.length+2:=ee;refine rV 10 (by kernel_rfl) ?_;refine sx 10 (some 19) I I (by kernel_rfl) (xX (.tmp 13) (.tmp 18) I I I I hr5) ?_;refine⟨hS5,?_⟩;clear hS;have hS:=hS5;simp only[X];refine rS hS 2 [11,12] I (by kernel_rfl) (fun _ _ _ _ _ h=>h) I I ?_
   (refine ak (.pointer (some ⟨g,0,none⟩)) ?_;simp only[X])
   (refine ak (.pointer (some ⟨g,24,none⟩)) ?_;simp only[X])
   simp only[sS];have al8:v5.oneCell'=true/\v5.cells= #[v5]:=ly;refine rV 13 (by kernel_rfl) ?_;refine ur 13 89 (.tmp 21) (.tmp 19) I I I (by kernel_rfl) g 24 I v5 I K5.1 eQ V6 al8.1 al8.2 ?_;intro w7 B7 g7 s7;have K7:HK w7 g T {c with tv:=v5}:=K5.put 14 B7 I;have k7:Fr (wj w5 Fq b) w5 w7:=kK;have F7:=J (Fr.uP (Fr.G (rC H2 H2.size b24)) (Fr.uP F5 k7));have T7:=J (T5.rM (R':=Ip w7) (fun _ x=>tY x g7 K5.1 K) (fun _ _ x=>x.fr k7));have O7:=J (((rJ.rM (R':=xH) O4 (fun _ x=>F5.own x bV) (fun _ _ x=>x))).sD g7 K5.1 K);have B7':=B5.grown g7 eR;have Z7':=Z5.grown g7 aB;have HK7:=J K7;refine⟨K7.ci 13 eP,?_⟩;simp only[X];refine wpAnyH_done (by kernel_rfl) ?_ _;exact oI
  ·
   refine sZ 9 (some 18) 94 #[.pointer (some ⟨gp,0,none⟩)] I I (by kernel_rfl) bc (PT.out _ H2.drew) ?_;rintro _ w4 ⟨v4,rfl,hO4,b4⟩;have b24:=rC ((Below.refl w2.heap.size w2).drew) (Nat.le_refl _) b4;have hS4:w4.cell? ⟨g,23,none⟩=some (.pointer (some ⟨gp,0,none⟩)):=kg;refine⟨_,I,hS4,?_⟩;simp only[X];refine rV 4 (by kernel_rfl) ?_;refine uj 4 (some 13) 89 (.tmp 12) ⟨g,24,none⟩ I I I I (by kernel_rfl) (LTD.out _ b24) ?_;refine⟨hS4,?_⟩;simp only[X];have T4:=yG.G HTV.out (rC H2 H2.size b24);have K4:=K2.out.G b24;have B4:=B2'.G b24 B2'.lt;have Z4:=Z2.G b24 Z2.lt;have O4:=rJ.G (R':=xH) O2.out b24 (fun _ _ x=>x);obtain⟨v5,w5,hr5,O5,g5⟩:=Np (P:=prog) w4 89 89 186 _ 18 184 underlying89 Im (by kernel_rfl) K g _ _ v4 tl TT T4 hO4 (Nat.le_of_lt K4.1.lt) (fun _ _ x=>x.len) (fun _ _ x=>x.one) aL Y;have F5:Fr (wj w4 Fq b) w4 w5:=iZ;have T5:=O5.rM (R':=Ip w5) (fun _ x=>x) (fun _ _ x=>x.fr F5);have K5:HK w5 g T c:=mj;have B5:=rJ.wF T4 B4 K g5;have Z5:=rJ.wF T4 Z4 K g5;have hS5:w5.cell? ⟨g,23,none⟩=some (.pointer (some ⟨gp,0,none⟩)):=K5.ci 13 eP;obtain⟨A5,c5,hv5⟩:=T5.form;have hl5:(tl++TT).length<=tl.length+2:=ee;refine rV 10 (by kernel_rfl) ?_;refine sx 10 (some 19) I I (by kernel_rfl) (xX (.tmp 13) (.tmp 18) I I I I hr5) ?_;refine⟨hS5,?_⟩;clear hS;have hS:=hS5;simp only[X];refine rS hS 2 [11,12] I (by kernel_rfl) (fun _ _ _ _ _ h=>h) I I ?_
   (refine ak (.pointer (some ⟨g,0,none⟩)) ?_;simp only[X])
   (refine ak (.pointer (some ⟨g,24,none⟩)) ?_;simp only[X])
   simp only[sS];have al8:v5.oneCell'=true/\v5.cells= #[v5]:=ly;refine rV 13 (by kernel_rfl) ?_;refine ur 13 89 (.tmp 21) (.tmp 19) I I I (by kernel_rfl) g 24 I v5 I K5.1 eQ V6 al8.1 al8.2 ?_;intro w7 B7 g7 s7;have K7:HK w7 g T {c with tv:=v5}:=K5.put 14 B7 I;have k7:Fr (wj w5 Fq b) w5 w7:=kK;have F7:=J (Fr.uP (Fr.G (rC H2 H2.size b24)) (Fr.uP F5 k7));have T7:=J (T5.rM (R':=Ip w7) (fun _ x=>tY x g7 K5.1 K) (fun _ _ x=>x.fr k7));have O7:=J (((rJ.rM (R':=xH) O4 (fun _ x=>F5.own x bV) (fun _ _ x=>x))).sD g7 K5.1 K);have B7':=B5.grown g7 eR;have Z7':=Z5.grown g7 aB;have HK7:=J K7;refine⟨K7.ci 13 eP,?_⟩;simp only[X];refine wpAnyH_done (by kernel_rfl) ?_ _;exact oI
 obtain⟨vt,TL,HK3,HT3,hTL,HO3,B3,Z3,HF3⟩:=hcut;obtain⟨w3,rfl⟩:∃w3,w3=wc:=gh;clear K2 O2 B2' Z2 H2 LTD LPP PT;have d23:=HK3.out.ci 13 (u:=.pointer (some ⟨gp,0,none⟩)) eP;have d25:=HK3.out.ci 15 (u:=.int .i64 (c.r6:Int)) I;go_upto_region 4 with fail;go_cut[] (fun wx=>Hid (HK wx g T {c with tv:=vt,r6:=c.r6+ns})/\Hid (yG wx g vt TL)/\Hid (uG wx 0 (.slice Ax xs.length cx) xs)/\N wx gr 50 [.int .i64 vd,.slice Ax xs.length cx,vn,.int .i64 ttl]/\N wx w.heap.size 50 [.int .i64 0,rI,rI,.int .i64 0]/\Hid (Fr (wj w Fq b) w wx))
 case first=>
  have PS1:=J (PS.out w3.drew (Fr.uP HF3.out (Fr.G ((Below.refl _ _).drew))));refine wp_region_held_drew (S:=fun V=>V.cell? ⟨g,23,none⟩=some (.pointer (some ⟨gp,0,none⟩))) (by kernel_rfl) d23 (fun hS=>?_);refine rS hS 7 [0,1,2,4,5,6,7] I (by kernel_rfl) (fun _ _ _ _ _ h=>h) I I ?_
  (refine ak (.pointer (some ⟨g,0,none⟩)) ?_;simp only[X])
  (refine ak (.pointer (some ⟨g,0,none⟩)) ?_;simp only[X])
  (refine ak (.pointer (some ⟨g,25,none⟩)) ?_;simp only[X])
  (refine ak (.pointer (some ⟨g,0,none⟩)) ?_;simp only[X])
  (refine ak (.pointer (some ⟨g,0,none⟩)) ?_;simp only[X])
  (refine ak (.pointer (some ⟨g,23,none⟩)) ?_;simp only[X])
  (refine aj _ I I (fun V hV=>(rX 88 (.tmp 28) ⟨g,23,none⟩ I I (rQ underlying88 I hV))) ?_;simp only[X])
  simp only[sS];have LS:(Instr.loadAt 3 (.pointer (some ⟨g,25,none⟩))).run prog w3.drew= .ok (.int .i64 (c.r6:Int)) w3.drew:=rQ underlying3 I d25;refine uZ 3 8 (by kernel_rfl) ?_ ?_
  ·
   refine uj 3 (some 25) 3 (.tmp 24) ⟨g,25,none⟩ I I I I (by kernel_rfl) LS ?_;refine⟨hS,?_⟩;simp only[X];refine rV 8 (by kernel_rfl) ?_;refine sZ 8 (some 30) 40 #[.pointer (some ⟨gp,0,none⟩)] I I (by kernel_rfl) bc PS1.out ?_;rintro _ _ ⟨rfl,rfl⟩;refine⟨_,I,hS,?_⟩;simp only[X];refine rS hS 3 [9,10,11] I (by kernel_rfl) (fun _ _ _ _ _ h=>h) I I ?_
   (refine aj (.int .i64 ((c.r6+ns:Nat):Int)) I I (fun V hV=>fM) ?_;simp only[X])
   (refine ak (.pointer (some ⟨g,0,none⟩)) ?_;simp only[X])
   (refine ak (.pointer (some ⟨g,25,none⟩)) ?_;simp only[X])
   simp only[sS];have K3d:HK w3.drew g T {c with tv:=vt}:=HK3.out;refine rV 12 (by kernel_rfl) ?_;refine ur 12 3 (.tmp 33) (.tmp 31) I I I (by kernel_rfl) g 25 I (.int .i64 ((c.r6+ns:Nat):Int)) I K3d.1 eS tG I I ?_;intro w7 B7 g7 s7;have K7:HK w7 g T {c with tv:=vt,r6:=c.r6+ns}:=K3d.put 15 B7 I;have k6:Fr (wj w3.drew Fq b) w3.drew w7:=ky;have k7:Fr (wj w3 Fq b) w3 w7:=kS;have F7:=J (Fr.uP HF3.out k7);have T7:=J ((yG.G HT3.out ((Below.refl _ _).drew)).rM (R':=Ip w7) (fun _ x=>tY x g7 K3d.1 K) (fun _ _ x=>x.fr k6));have O7:Hid (uG w7 0 (.slice Ax xs.length cx) xs):=jW;have B7':=B3.drew.grown g7 eR;have Z7':=Z3.drew.grown g7 aB;have HK7:=J K7;refine⟨K7.ci 13 eP,?_⟩;simp only[X];refine wpAnyH_done (by kernel_rfl) ?_ _;exact pK
  ·
   refine sZ 8 (some 30) 40 #[.pointer (some ⟨gp,0,none⟩)] I I (by kernel_rfl) bc PS1.out ?_;rintro _ _ ⟨rfl,rfl⟩;refine⟨_,I,hS,?_⟩;simp only[X];refine rV 3 (by kernel_rfl) ?_;refine uj 3 (some 25) 3 (.tmp 24) ⟨g,25,none⟩ I I I I (by kernel_rfl) LS ?_;refine⟨hS,?_⟩;simp only[X];refine rS hS 3 [9,10,11] I (by kernel_rfl) (fun _ _ _ _ _ h=>h) I I ?_
   (refine aj (.int .i64 ((c.r6+ns:Nat):Int)) I I (fun V hV=>fM) ?_;simp only[X])
   (refine ak (.pointer (some ⟨g,0,none⟩)) ?_;simp only[X])
   (refine ak (.pointer (some ⟨g,25,none⟩)) ?_;simp only[X])
   simp only[sS];have K3d:HK w3.drew g T {c with tv:=vt}:=HK3.out;refine rV 12 (by kernel_rfl) ?_;refine ur 12 3 (.tmp 33) (.tmp 31) I I I (by kernel_rfl) g 25 I (.int .i64 ((c.r6+ns:Nat):Int)) I K3d.1 eS tG I I ?_;intro w7 B7 g7 s7;have K7:HK w7 g T {c with tv:=vt,r6:=c.r6+ns}:=K3d.put 15 B7 I;have k6:Fr (wj w3.drew Fq b) w3.drew w7:=ky;have k7:Fr (wj w3 Fq b) w3 w7:=kS;have F7:=J (Fr.uP HF3.out k7);have T7:=J ((yG.G HT3.out ((Below.refl _ _).drew)).rM (R':=Ip w7) (fun _ x=>tY x g7 K3d.1 K) (fun _ _ x=>x.fr k6));have O7:Hid (uG w7 0 (.slice Ax xs.length cx) xs):=jW;have B7':=B3.drew.grown g7 eR;have Z7':=Z3.drew.grown g7 aB;have HK7:=J K7;refine⟨K7.ci 13 eP,?_⟩;simp only[X];refine wpAnyH_done (by kernel_rfl) ?_ _;exact pK
 obtain⟨HK4,HT4,HO4,B4,Z4,HF4⟩:=hcut;obtain⟨w4,rfl⟩:∃w4,w4=wc:=gh;clear HK3 HT3 HO3 B3 Z3 HF3 d23 d25 PS;have K4:=HK4.out;go_wp2_with(refine rF (.store 88 (.tmp 36) (.const (.pointer none))) I (af I g 23 (.pointer none) K4.1 eT So ?_));intro w5 B5 g5 sw;clear sw;have K5:HK w5 g T {c with pp:=none,tv:=vt,r6:=c.r6+ns}:=K4.put 13 B5 I;have k5:Fr (wj w4 Fq b) w4 w5:=Fr.grown g5 K4.1 bV ⟨Y,_,_,K4.1,.inl I⟩;have T5:=HT4.out.rM (R':=Ip w5) (fun _ x=>tY x g5 K4.1 K) (fun _ _ x=>x.fr k5);have O5:uG w5 0 (.slice Ax xs.length cx) xs:=HO4.out.rM (fun _ x=>k5.own x bV) (fun _ _ x=>x);have C5:=B4.grown g5 eR;have Z5:=Z4.grown g5 aB;have F5:=Fr.uP HF4.out k5;clear B5 g5 K4 HK4 HT4 HO4 B4 Z4 HF4 k5;go_wp2_with(first
  |(refine rF (.load 50 (.tmp 3)) rfl ?_;go_must(refine rG rfl _ _ rfl gr 0 rfl C5 4 (Nat.le_refl 4) _ underlying50 rfl vE _ rfl ?_))
  |(refine rF (.store 50 (.tmp 2) (.tmp 37)) rfl (ab rfl w.heap.size 0 [.int .i64 vd,.slice Ax xs.length cx,vn,.int .i64 ttl] Z5 (Nat.le_refl 4) vE w1 ?_)))
 intro w6 B6 g6 sw;clear sw;have K6:HK w6 g T {c with pp:=none,tv:=vt,r6:=c.r6+ns}:=⟨K5.1.grown g6 aB,K5.2⟩;have T6:=T5.rM (R':=Ip w6) (fun _ x=>tY x g6 Z5 K) (fun _ _ x=>x.Ht g6 Z5 K K K);have O6:=rJ.sD O5 g6 Z5 K;have F6:=Fr.new F5 g6 (Nat.le_refl _);have A6:=HAT.out.upd (c':={c with pp:=none,tv:=vt,r6:=c.r6+ns}) F6 HKK.out K6 ⟨I,I,I,I,I,I⟩ ⟨I,I,I⟩ ⟨TL,T6,by rw[HPP.out]at auC;simp only[reduceCtorEq,if_false,if_true]at auC⊢;omega⟩ HAT.out.r1 HAT.out.eq.2.2.2.1;have L6:=HLT.out.yu F6 eM;have HX:=J (show LvH w0 b g gl D c n L h2 TK w (.returned (.agg [.int .i64 vd,.slice Ax xs.length cx,vn,.int .i64 ttl].toArray)) w6 from
  ⟨vd,_,vn,ttl,xs,{c with pp:=none,tv:=vt,r6:=c.r6+ns},I,auz.1,auz.2,⟨O6,hxl⟩,hvn,
   ⟨A6,L6,⟨HNM.out.an,HNM.out.bg,HNM.out.nx⟩,HUS.out,HDS.out,asF.out.2,by have:=asF.out.1;simpa using this,I,HDN.out⟩,I,I,I,I,F6.tD (Below.refl b w) hbw (Nat.le_refl b),sR.fr F6 eM⟩)
 clear K5 T5 O5 C5 Z5 F5 g6 K6 T6 O6 F6 A6 L6;go_wp2_with fail;exact tx I w.heap.size I B6 _ underlying50 I vE I HX.out
end
end Go.Proofs.YtakkipnmpmobbaaGreat
