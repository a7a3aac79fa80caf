/-
  Drawn regions:a row of operations that reckon,or read what stays,taken in one step.
-/
import Derived.Test.YthnbcmlnpdabhaaGreatIAq
namespace Go.Proofs.YthnbcmlnpdabhaaGreat
open _root_.Go.Proofs.Tryz
set_option maxHeartbeats 8000000
open Go.RowKit
set_option linter.unusedVariables false
set_option linter.unusedSimpArgs false
variable {w:World} {a:Act} {P:Program} {t e:TypeId} {sz ba oa n c:Nat}
section
variable {P:Program} {ops:Array Oper} {S:World->Prop} {Q:Exit->Act->World->Prop}
def seqB(ops:Array Oper):List Nat->Array Bool->Bool
 |[],_=>true
 |i::is,li=>(Region.free .any ops li i&&(Region.ready .any ops li).contains i)&&seqB ops is (li.setIfInBounds i true)
def adZ:List Nat->Array Bool->Array Bool
 |[],li=>li
 |i::is,li=>adZ is (li.setIfInBounds i true)
def Z9:List Oper->Nat->Option Oper
 |[],_=>none
 |o::_,0=>some o
 |_::l,i+1=>Z9 l i
theorem Wm:∀(l:List Oper) (i:Nat),Z9 l i=l[i]?
 |[],_=>rfl
 |_::_,0=>rfl
 |_::l,i+1=>by rw[List.getElem?_cons_succ];exact Wm l i
def vY(P:Program)(ops:Array Oper)(S:World->Prop)(hb:Act->Prop):List Nat->Act->Prop
 |[],a=>hb a
 |i::is,a=>∃o v,Z9 ops.toList i=some o/\(Region.wanted o (yielded ops a.tmps)=true/\(∀w,S w->(execOp a.eval o).run P w= .ok (.value v) w)\/Region.wanted o (yielded ops a.tmps)=false/\v=undef)/\vY P ops S hb is (a.put o.dst v)
theorem Ot(hs:Region.noSelect ops=true)(hQ:∀c a d v w,Q (.panic c) (Act.put a (some d) v) w->Q (.panic c) a w){w:World}(K:S w):∀(is:List Nat) (li:Array Bool) (a:Act) (afd:Nat),seqB ops is li=true->vY P ops S (fun a'=>wpAnyH P .any ops Q S afd (adZ is li) a' w) is a->wpAnyH P .any ops Q S (afd+is.length) li a w
 |[],li,a,afd,_,h=>h
 |i::is,li,a,afd,Z,hr=>by
  obtain⟨o,v,ho,hv,hr⟩:=hr;rw[Wm,Array.getElem?_toList]at ho;unfold seqB at Z;simp only[Bool.and_eq_true]at Z;have k:=Ot hs hQ K is (li.setIfInBounds i true) (a.put o.dst v) afd Z.2 hr;exact wpAnyH_take ho hs Z.1.1 Z.1.2 (fun c a w hq=>by
   cases hd:o.dst with
   |none=>rw[hd]at hq;exact hq
   |some d=>rw[hd]at hq;exact hQ c a _ _ w hq) hv K k
theorem uL(K:S w)(n:Nat)(is:List Nat){li li':Array Bool}{afd amk:Nat}(hn:is.length=n)(Z:(Region.noSelect ops&&seqB ops is li)=true)(hQ:∀c a d v w,Q (.panic c) (Act.put a (some d) v) w->Q (.panic c) a w)(hf:afd=amk+n)(hl:adZ is li=li')
  (hr:vY P ops S (fun a'=>wpAnyH P .any ops Q S amk li' a' w) is a):wpAnyH P .any ops Q S afd li a w:=by
 subst hn hf hl;rw[Bool.and_eq_true]at Z;exact Ot Z.1 hQ K is li a amk Z.2 hr
theorem ah{ops:Array Oper}{S:World->Prop}{hb:Act->Prop}{i:Nat}{is:List Nat}{o:Oper}(v:Value)(ho:Z9 ops.toList i=some o)(hw:Region.wanted o (yielded ops a.tmps)=true)(hv:∀w,S w->(execOp a.eval o).run P w= .ok (.value v) w)(h:vY P ops S hb is (a.put o.dst v)):vY P ops S hb (i::is) a:=⟨o,v,ho,.inl ⟨hw,hv⟩,h⟩
theorem aj{ops:Array Oper}{S:World->Prop}{hb:Act->Prop}{i:Nat}{is:List Nat}{o:Oper}(v:Value)(h:vY P ops S hb is (a.put o.dst v))(ho:Z9 ops.toList i=some o:=by exact J)(hw:Region.wanted o (yielded ops a.tmps)=true:=by exact J)(hv:∀w,S w->(execOp a.eval o).run P w= .ok (.value v) w:=by exact fun _ _=>rfl):vY P ops S hb (i::is) a:=⟨o,v,ho,.inl ⟨hw,hv⟩,h⟩
theorem uP{o:Oper}(O:TypeId)(x:Operand)(p:Addr){v:Value}(ho:o.op= .load O x)(hx:a.eval x= .pointer (some p))(hv:(Instr.loadAt O (.pointer (some p))).run P w= .ok v w):(execOp a.eval o).run P w= .ok (.value v) w:=by
 exact s9
theorem AZ{o:Oper}(t:TypeId)(parts:Array (Nat×Operand))(ho:o.op= .build t parts)(ww:Array (Nat×Value))(hv:parts.map (fun(i,x)=>(i,a.eval x))=ww){v:Value}(hr:(Instr.build t ww).run P w= .ok v w):(execOp a.eval o).run P w= .ok (.value v) w:=by
 exact td
end
theorem Wn{k:Nat}(ht:prog.underlying t=some (.slice e))(hs:(prog.info? e).map (·.size)=some sz)(hz:0<sz)(z:k<n)(w:World):(Instr.indexAt t (.slice (some ⟨ba,oa,none⟩) n c) (.int .i64 k)).run prog w= .ok (.pointer (some ⟨ba,oa+k*sz,none⟩)) w:=by
 have U:(k:Int)<n:=I;obtain⟨i,hi,adh⟩:=Option.map_eq_some_iff.1 hs;simp[Instr.indexAt,run_underlying ht,asIntOf,sizeOf,typeInfo,hi,adh,U,Addr.add];rw[if_pos z];by_cases h0:k*sz=0
 ·rw[if_pos h0,h0];rfl
 ·rw[if_neg h0]
theorem yV{k:Nat}{o:Oper}(ht:prog.underlying t=some (.slice e))(hs:(prog.info? e).map (·.size)=some sz)(hz:0<sz)(x y:Operand)(ho:o.op= .indexAddr t x y)(hx:a.eval x= .slice (some ⟨ba,oa,none⟩) n c)(hy:a.eval y= .int .i64 k)(z:k<n)(w:World):(execOp a.eval o).run prog w= .ok (.value (.pointer (some ⟨ba,oa+k*sz,none⟩))) w:=by
 have hr:=Wn (ba:=ba) (oa:=oa) (c:=c) ht hs hz z w;exact sU
theorem yM{b o:Nat}{sub:List Value}{O:TypeId}{d:TypeDesc}(h:w.rangeAt b o sub)(hu:prog.underlying O=some d)(hd:d.isRow=true)(hi:(prog.info? O).map (·.size)=some sub.length):(Instr.loadAt O (.pointer (some ⟨b,o,none⟩))).run prog w= .ok (.agg sub.toArray) w:=run_loadAt_mid w b o O sub d h hu hd hi
set_option maxRecDepth 100000
def Rj(p:vG×Int):List Value:=p.1.cells++[.int .i64 p.2]
def pfZ:List Value:=Rj (vG.zero,0)
theorem KG{p:vG×Int}(h:p.1.ip.length=16):(Rj p).length=19:=by simp[Rj,p.1.uT h]
theorem ab5(p:vG×Int):∀v∈Rj p,v.oneCell'=true:=by
 intro v hv;rcases List.mem_append.1 hv with h|h
 ·exact p.1.xW v h
 ·simp at h;subst h;rfl
theorem aaa{p:vG×Int}(h:p.1.ip.length=16):((Rj p).drop 0).take 18=p.1.cells:=by rw[List.drop_zero];exact List.take_left' (p.1.uT h)
theorem aab{p:vG×Int}(h:p.1.ip.length=16):(Rj p)[18]?=some (.int .i64 p.2):=by
 unfold Rj;rw[List.getElem?_append_right (by rw[p.1.uT h];omega),p.1.uT h];rfl
theorem Ov:(prog.info? 236).map (·.size)=some 19:=by kernel_rfl
theorem IB:(prog.info? 236).map (fun i=>(i.zero,i.size,i.bytes))=some (some (.agg pfZ.toArray),19,40):=by kernel_rfl
def PW(cs:List Value)(p:vG×Int):Prop:=cs=Rj p/\p.1.ip.length=16
abbrev ae8(w:World)(B:Nat)(v:Value)(l:List (vG×Int)):Prop:=uY w B 236 19 PW v l
abbrev ad0(w:World)(A:Option Addr)(l:List (vG×Int)):Prop:=LIn w 19 PW A l
def JY(a:vG):Int:=if a.fam=4 then 32 else if a.fam=6 then 128 else 0
def Jj(p:vG×Int):Int:=if p.1.check≠0 then p.1.check else if p.2<0\/JY p.1<p.2 then 4 else 0
def SC(p:vG×Int):Bool:=Jj p==0
theorem aac(a:vG)(h:a.ip.length=16)(w:World):Calls prog 222 #[.agg a.cells.toArray] w (uI (.int .i64 (JY a)) w):=by
 have c0:=(F.new w 24 a.cells).M 0 (u:=.int .i64 a.fam) J;have HB:Below w.heap.size w (w.alloc (.cells a.cells.toArray 24)):=gF;have hb:JY a=if a.fam=4 then 32 else if a.fam=6 then 128 else 0:=rfl
 have HK:=Y hb;clear hb h;generalize a.cells=L,a.fam=f at*;go_enter func222,ntmps222;exact pY
theorem XJ(p:vG×Int)(h:p.1.ip.length=16)(w:World):Calls prog 185 #[.agg (Rj p).toArray] w (uI (.int .i64 (Jj p)) w):=by
 have hcl:=KG h;have hca:=aaa h;have B:=F.new w 236 (Rj p);have c18:=B.M 18 (aab h);have AC:=Y (fun W=>Dv p.1 h W);have BA:=Y (fun W=>aac p.1 h W);have HB:Below w.heap.size w (w.alloc (.cells (Rj p).toArray 236)):=gF;have hb:Jj p=if p.1.check≠0 then p.1.check else if p.2<0\/JY p.1<p.2 then 4 else 0:=rfl
 have HK:=Y hb;have HCA:=Y hca;clear hb h hca;generalize Rj p=L at*;generalize p.1.cells=ul,p.1.check=ck at*;generalize JY p.1=bt at*;generalize p.2=n at*;go_enter func185,ntmps185;go_wp2_with(refine ur (.load 24 (.tmp 4)) J ?_;go_must(refine uu J _ _ J w.heap.size 0 J B 18 I _ underlying24 J Cf ul HCA.out ?_));refine(AC.out _).mono ?_;rintro _ w1 ⟨rfl,b1⟩;have B1:=B.G b1 B.lt;have H1:=um HB HB.size b1;have p18:L[18]?=some (.int .i64 n):=by rw[<-B.cell 18];exact c18
 clear b1 c18 HB AC;by_cases hck:ck=0
 case neg=>have apJ:(ck !=0)=true:=nc;rw[if_pos hck]at HK;clear hck B;go_wp2_with fail;go_ret;exact uI.mk cL H1
 have apJ:(ck !=0)=false:=nc;rw[if_neg (by simpa using hck)]at HK;have LD:Hid (∀V,al w1 V->(Instr.loadAt 3 (.pointer (some ⟨w.heap.size,18,none⟩))).run prog V= .ok (.int .i64 n) V):=jY;have LA:Hid (∀V,al w1 V->(Instr.loadAt 24 (.pointer (some ⟨w.heap.size,0,none⟩))).run prog V= .ok (.agg ul.toArray) V):=jz;clear hck B;go_wp2_with fail;by_cases hn:n<0
 case pos=>
  have hn':decide (n<0)=true:=cG;rw[if_pos (.inl hn)]at HK;refine wp_region_held_drew (S:=fun V=>al w1 V) (by kernel_rfl) (Below.refl _ _).drew (fun K=>?_);refine uL K 11 [0,1,2,3,4,5,6,7,8,9,10] J (by kernel_rfl) (fun _ _ _ _ _ h=>h) J J ?_;repeat(refine aj _ ?_;simp only[E])
  (refine ah _ J J (fun V hV=>(uP 3 (.tmp 10) ⟨w.heap.size,18,none⟩ J J (LD.out V hV))) ?_;simp only[E])
  repeat(refine aj _ ?_;simp only[E])
  simp only[hn'];repeat(refine⟨_,undef,J,.inr ⟨J,J⟩,?_⟩;simp only[E])
  repeat(refine aj _ ?_;simp only[E])
  simp only[vY];refine wpAnyH_done (by kernel_rfl) ?_ _;go_wp2_with fail;go_ret;exact uI.mk cL (um H1 H1.size K)
 have hn':decide (n<0)=false:=cG;refine wp_region_held_drew (S:=fun V=>al w1 V) (by kernel_rfl) (Below.refl _ _).drew (fun K=>?_);refine uL K 8 [0,1,2,3,4,5,6,7] J (by kernel_rfl) (fun _ _ _ _ _ h=>h) J J ?_;repeat(refine aj _ ?_;simp only[E])
 (refine ah _ J J (fun V hV=>(uP 3 (.tmp 10) ⟨w.heap.size,18,none⟩ J J (LD.out V hV))) ?_;simp only[E])
 repeat(refine aj _ ?_;simp only[E])
 simp only[hn'];repeat(refine aj _ ?_;simp only[E])
 (refine ah _ J J (fun V hV=>(uP 3 (.tmp 14) ⟨w.heap.size,18,none⟩ J J (LD.out V hV))) ?_;simp only[E])
 repeat(refine aj _ ?_;simp only[E])
 (refine ah _ J J (fun V hV=>(uP 24 (.tmp 16) ⟨w.heap.size,0,none⟩ J J (LA.out V hV))) ?_;simp only[E])
 simp only[vY];refine vx 8 (some 18) 222 #[.agg ul.toArray] (by kernel_rfl) J J (by kernel_rfl) bp (BA.out _) ?_;rintro _ w2 ⟨rfl,b2⟩;refine⟨_,J,um K K.size b2,?_⟩;have K:=um K K.size b2;simp only[E];refine uL K 2 [9,10] J (by kernel_rfl) (fun _ _ _ _ _ h=>h) J J ?_;repeat(refine aj _ ?_;simp only[E])
 simp only[vY];refine wpAnyH_done (by kernel_rfl) ?_ _;have HE:Hid (Jj p=if bt<n then 4 else 0):=Y (by rw[HK.out];by_cases h:bt<n<;>simp[h,hn]);clear HK LD LA b2 B1;by_cases Z:bt<n;all_goals
  go_wp2_with fail;go_ret;exact uI.mk (by rw[HE.out];first|(rw[if_pos Z];rfl)|(rw[if_neg I];rfl)) (um H1 H1.size K)
theorem Nv(p:vG×Int)(h:p.1.ip.length=16)(w:World):Calls prog 133 #[.agg (Rj p).toArray] w (uI (.bool (SC p)) w):=by
 have hcl:=KG h;have AC:=Y (fun W=>XJ p h W);have hb:SC p=(Jj p==0):=rfl;have HK:=Y hb;clear hb;generalize Rj p=L at*;generalize Jj p=ck at*;have HB:Below w.heap.size w (w.alloc (.cells L.toArray 236)):=gF;go_enter func133,ntmps133;go_wp2_with(refine ur (.load 236 (.tmp 1)) J ?_;go_must(refine uu J _ _ J w.heap.size 0 J (F.new w 236 L) 19 I _ underlying236 J Ov L (wP I) ?_));exact sE
theorem XK(A:Option Addr)(c:Nat)(l:List (vG×Int))(m:Nat)(w:World)(hA:ad0 w A l)(hl:l.length<=17592186044416)(hm:m<=100):
  Calls prog 132 #[.slice A l.length c,.int .i64 m,.func (.func 133) #[] #[]] w (Ew 236 19 (fun _=>PW) (y6 SC l m) w):=by
 have apV:pfZ.length=19:=rfl;obtain⟨p,hp⟩:∃p,p=SC:=gG;have MS:=Y (fun a h W=>Nv a h W);rw[<-hp]at MS⊢;clear hp;go_enter func132,ntmps132;go_wp2_with fail;go_loopw[7,12] (fun kv iv wr=>∃k:Nat,k<=l.length/\iv= .int .i64 k/\ae8 wr w.heap.size kv ((l.take k).filter p)/\((l.take k).filter p).length<=m/\al w wr) (fun _ iv _=>l.length-(intOf iv).toNat)
 case atStart=>exact⟨0,Nat.zero_le _,J,uY.nil _ _ _ _ _,ap,Below.refl _ _⟩
 obtain⟨k,z,rfl,ho,hle,hB⟩:=hrel;obtain⟨Ak,ck,hv⟩:=ho.form;subst hv;by_cases aB:k<l.length
 case neg=>exact pF
 have h1:(k:Int)<l.length:=I;obtain⟨b,off,rfl,Z,hr⟩:=hA I;obtain⟨cs,hS,hce,h2⟩:=hr k aB;have hS:=uD hS hB Z;have hcl:cs.length=19:=om;have agj:∀v∈cs,v.oneCell'=true:=oD;have MK:Hid (∀W,Calls prog 133 #[.agg cs.toArray] W (uI (.bool (p l[k])) W)):=mO;have HC:=Y hce;have HO:=Y ho;have HI:=Y h2;clear hce h2 hr ho hA;have W1:Below wr.heap.size wr (wr.alloc (.cells pfZ.toArray 236)):=gF;by_cases al3:((l.take k).filter p).length<m
 case neg=>
  have air:¬(((l.take k).filter p).length:Int)<m:=I;go_wp2_with(first
   |(refine ur (.load 236 (.tmp 14)) rfl ?_;go_must(refine wj rfl 236 (.tmp 14) rfl b (off+k*19) rfl cs hS _ underlying236 rfl cU ?_))
   |(refine ur (.store 236 (.tmp 9) (.tmp 15)) rfl (ab rfl wr.heap.size 0 cs (F.new wr 236 pfZ) cN cU agj ?_)))
  intro w1 B1 g1 _;have H1:=uq (um hB hB.size W1) g1 aT hB.size;have K1:=uq W1 g1 W1.size (Nat.le_refl _);clear g1 B1 W1;go_wp2_with fail;go_ret;refine⟨_,J,?_,H1⟩;have e:((l.take k).filter p).length=m:=I;rw[Gl e];exact uY.G (R':=PW) HO.out K1 (fun _ _ h=>h)
 have air:(((l.take k).filter p).length:Int)<m:=I;go_wp2_with(first
  |(refine ur (.load 236 (.tmp 14)) rfl ?_;go_must(refine wj rfl 236 (.tmp 14) rfl b (off+k*19) rfl cs hS _ underlying236 rfl cU ?_))
  |(refine ur (.store 236 (.tmp 9) (.tmp 15)) rfl (ab rfl wr.heap.size 0 cs (F.new wr 236 pfZ) cN cU agj ?_)))
 intro w1 B1 g1 _;have B1':=xA B1 I;have H1:=uq (um hB hB.size W1) g1 aT hB.size;clear B1;go_wp2_with(refine ur (.load 236 (.tmp 9)) J ?_;go_must(refine uu J _ _ J wr.heap.size 0 J B1' 19 I _ underlying236 J Ov cs (wP I) ?_));refine(MK.out _).mono ?_;rintro _ w2 ⟨rfl,b2⟩;have B2:=B1'.G b2 B1'.lt;have H2:=um H1 H1.size b2;have K2:=um (uq W1 g1 W1.size (Nat.le_refl _)) cO b2;have O2:=uY.G (R':=PW) HO.out K2 (fun _ _ h=>h);have FS:=Y (zT (p:=p) aB);have hlen:((l.take k).filter p).length+1<=200:=I;clear MS MK hS W1 g1 b2 B1' HO H1;cases hpk:p l[k]with
 |false=>exact ri
 |true=>
  rw[hpk]at FS;have K3:Below w2.heap.size w2 (w2.alloc (.cells cs.toArray 236)):=gF;have O3:=uY.G (R':=PW) O2 K3 (fun _ _ h=>h);have N3:=O2.ne (Nat.le_refl _);clear hpk;go_wp2_with(first
   |(refine ur (.load 236 (.tmp 9)) rfl ?_;go_must(refine uu rfl _ _ rfl wr.heap.size 0 rfl B2 19 I _ underlying236 rfl Ov cs (wP I) ?_))
   |(refine ur (.buildSlice 67 1 #[(0,.tmp 24)]) rfl ?_;go_must(refine CU rfl 67 236 _ 19 40 underlying67 IB az az (.tmp 24) rfl cs rfl hcl ?_))
   |(at_builtin;go_must(refine yu _ rfl _ _ 67 rfl 236 _ 19 40 underlying67 IB (by kernel_rfl) az w.heap.size _ _ rfl O3 cP w2.heap.size cs l[k] rfl (F.new _ _ _) N3 hcl agj ⟨HC.out,HI.out⟩ aK I ?_)))
  intro v' w4 O4 g4;have H4:=(um H2 H2.size K3).grown g4 cP O3.base;clear g4 K3 O3 O2 N3 B2 H2;exact pL
def NmI(w:World)(cs:List Value)(n:List (List UInt8)):Prop:=∃A c,cs=[.slice A n.length c]/\xE w A c n
abbrev ad1(w0 w:World)(B:Nat)(v:Value)(l:List (List (List UInt8))):Prop:=uY w B 26 1 (NmI w0) v l
theorem XL{w':World}{A:Option Addr}{l:List (List (List UInt8))}(h:Iq w A l)(Z:al w w'):Iq w' A l:=by
 intro hp;obtain⟨b,off,U,X,h3⟩:=h hp;refine⟨b,off,U,Nat.lt_of_lt_of_le X Z.size,fun i hi=>?_⟩;obtain⟨Ai,ci,h4,h5⟩:=h3 i hi;exact⟨Ai,ci,(Z.cell (p:=⟨b,off+i,none⟩) X).trans h4,h5.G Z⟩
def Hl(n:List (List UInt8)):Bool:=decide (0<n.length)&&(uE n==0)
theorem PY:(prog.info? 26).map (fun i=>(i.zero,i.size,i.bytes))=some (some uz,1,24):=by kernel_rfl
theorem SG(A:Option Addr)(c:Nat)(n:List (List UInt8))(hm:n.length<=281474976710656)(w:World)(h:AO w A n):Calls prog 131 #[.slice A n.length c] w (xX (.bool (Hl n)) w):=by
 have DC:=Y (zG A c n w h hm);have hb:Hl n=(decide (0<n.length)&&(uE n==0)):=rfl;have HK:=Y hb;clear hb h;generalize uE n=ck at*;go_enter func131,ntmps131;by_cases h0:0<n.length
 case neg=>have h0':decide (0<n.length)=false:=kD;have e:n.length=0:=I;rw[e]at DC⊢;rw[h0']at HK;clear h0 h0' e;go_wp2_with fail;go_ret;exact xX.mk cL J
 have h0':(0:Int)<n.length:=I;have atS:decide (0<n.length)=true:=kD;rw[atS]at HK;clear atS;go_wp2_with fail;refine DC.out.mono ?_;rintro _ w1 ⟨rfl,rfl⟩;go_wp2_with fail;go_ret;exact xX.mk cL J
theorem XM(w0:World)(A:Option Addr)(c:Nat)(l:List (List (List UInt8)))(m:Nat)(w:World)(hA:Iq w0 A l)(hw:al w0 w)(hl:l.length<=17592186044416)(hm:m<=100):
  Calls prog 130 #[.slice A l.length c,.int .i64 m,.func (.func 131) #[] #[]] w (Ew 26 1 (fun _=>NmI w0) (y6 Hl l m) w):=by
 obtain⟨p,hp⟩:∃p,p=Hl:=gG;have MS:=Y (fun A c n W U X=>SG A c n W U X);rw[<-hp]at MS⊢;clear hp;go_enter func130,ntmps130;go_wp2_with fail;go_loopw[7,12] (fun kv iv wr=>∃k:Nat,k<=l.length/\iv= .int .i64 k/\ad1 w0 wr w.heap.size kv ((l.take k).filter p)/\((l.take k).filter p).length<=m/\al w wr) (fun _ iv _=>l.length-(intOf iv).toNat)
 case atStart=>exact⟨0,Nat.zero_le _,J,uY.nil _ _ _ _ _,ap,Below.refl _ _⟩
 obtain⟨k,z,rfl,ho,hle,hB⟩:=hrel;obtain⟨Ak,ck,hv⟩:=ho.form;subst hv;by_cases aB:k<l.length
 case neg=>exact pF
 have h1:(k:Int)<l.length:=I;obtain⟨b,off,rfl,Z,hr⟩:=hA I;obtain⟨An,cn,ce,hnm⟩:=hr k aB;have hBW:=um hw hw.size hB;replace ce:=(hBW.cell (p:=⟨b,off+k,none⟩) Z).trans ce;have hln:=hnm.2.2.1;have MK:=Y (MS.out An cn l[k] I wr (hnm.G hBW).1);have HO:=Y ho;have HI:=Y hnm;clear hr ho hA MS hnm hBW hw;by_cases al3:((l.take k).filter p).length<m
 case neg=>exact sm
 have FS:=Y (zT (p:=p) aB);have hlen:((l.take k).filter p).length+1<=200:=I;have NI:Hid (NmI w0 [.slice An l[k].length cn] l[k]):=Y ⟨An,cn,J,HI.out⟩;generalize l[k].length=nl at*;go_wp2_with fail;refine MK.out.mono ?_;rintro _ w2 ⟨rfl,rfl⟩;clear MK;cases hpk:p l[k]with
 |false=>exact qY
 |true=>rw[hpk]at FS;have K3:Below wr.heap.size wr (wr.alloc (.cells #[.slice An nl cn] 26)):=gF;have N3:=HO.out.ne (Nat.le_refl _);clear hpk;go_wp2_with(at_builtin;go_must(refine yu _ J _ _ 66 J 26 _ 1 24 underlying66 PY (by kernel_rfl) az w.heap.size _ _ J (uY.G (R':=NmI w0) HO.out K3 (fun _ _ h=>h)) aT wr.heap.size [.slice An nl cn] l[k] J (F.new _ _ _) N3 J aP NI.out aK I ?_));intro v' w4 O4 g4;have H4:=(um hB hB.size K3).grown g4 aT HO.out.base;clear g4 K3 N3;exact pL
end Go.Proofs.YthnbcmlnpdabhaaGreat
