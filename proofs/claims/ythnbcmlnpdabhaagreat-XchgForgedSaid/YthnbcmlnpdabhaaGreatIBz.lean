/-
  Drawn regions:a row of operations that reckon,or read what stays,taken in one step.
-/
import Derived.Test.YthnbcmlnpdabhaaGreatIAz
namespace Go.Proofs.YthnbcmlnpdabhaaGreat
open _root_.Go.Proofs.Tryz
set_option maxHeartbeats 8000000
open Go.RowKit
set_option linter.unusedVariables false
set_option linter.unusedSimpArgs false
variable {w:World} {a:Act} {P:Program} {t e:TypeId} {sz ba oa n c:Nat}
section
variable {P:Program} {ops:Array Oper} {S:World->Prop} {Q:Exit->Act->World->Prop}
def seqB(ops:Array Oper):List Nat->Array Bool->Bool
 |[],_=>true
 |i::is,li=>(Region.free .any ops li i&&(Region.ready .any ops li).contains i)&&seqB ops is (li.setIfInBounds i true)
def ac4:List Nat->Array Bool->Array Bool
 |[],li=>li
 |i::is,li=>ac4 is (li.setIfInBounds i true)
def Zg:List Oper->Nat->Option Oper
 |[],_=>none
 |o::_,0=>some o
 |_::l,i+1=>Zg l i
theorem Vp:∀(l:List Oper) (i:Nat),Zg l i=l[i]?
 |[],_=>rfl
 |_::_,0=>rfl
 |_::l,i+1=>by rw[List.getElem?_cons_succ];exact Vp l i
def vx(P:Program)(ops:Array Oper)(S:World->Prop)(hb:Act->Prop):List Nat->Act->Prop
 |[],a=>hb a
 |i::is,a=>∃o v,Zg ops.toList i=some o/\(Region.wanted o (yielded ops a.tmps)=true/\(∀w,S w->(execOp a.eval o).run P w= .ok (.value v) w)\/Region.wanted o (yielded ops a.tmps)=false/\v=undef)/\vx P ops S hb is (a.put o.dst v)
theorem NG(hs:Region.noSelect ops=true)(hQ:∀c a d v w,Q (.panic c) (Act.put a (some d) v) w->Q (.panic c) a w){w:World}(M:S w):∀(is:List Nat) (li:Array Bool) (a:Act) (aeH:Nat),seqB ops is li=true->vx P ops S (fun a'=>wpAnyH P .any ops Q S aeH (ac4 is li) a' w) is a->wpAnyH P .any ops Q S (aeH+is.length) li a w
 |[],li,a,aeH,_,h=>h
 |i::is,li,a,aeH,F,hr=>by
  obtain⟨o,v,ho,hv,hr⟩:=hr;rw[Vp,Array.getElem?_toList]at ho;unfold seqB at F;simp only[Bool.and_eq_true]at F;have k:=NG hs hQ M is (li.setIfInBounds i true) (a.put o.dst v) aeH F.2 hr;exact wpAnyH_take ho hs F.1.1 F.1.2 (fun c a w hq=>by
   cases hd:o.dst with
   |none=>rw[hd]at hq;exact hq
   |some d=>rw[hd]at hq;exact hQ c a _ _ w hq) hv M k
theorem uh(M:S w)(n:Nat)(is:List Nat){li li':Array Bool}{aeH aln:Nat}(hn:is.length=n)(F:(Region.noSelect ops&&seqB ops is li)=true)(hQ:∀c a d v w,Q (.panic c) (Act.put a (some d) v) w->Q (.panic c) a w)(hf:aeH=aln+n)(hl:ac4 is li=li')
  (hr:vx P ops S (fun a'=>wpAnyH P .any ops Q S aln li' a' w) is a):wpAnyH P .any ops Q S aeH li a w:=by
 subst hn hf hl;rw[Bool.and_eq_true]at F;exact NG F.1 hQ M is li a aln F.2 hr
theorem ah{ops:Array Oper}{S:World->Prop}{hb:Act->Prop}{i:Nat}{is:List Nat}{o:Oper}(v:Value)(ho:Zg ops.toList i=some o)(hw:Region.wanted o (yielded ops a.tmps)=true)(hv:∀w,S w->(execOp a.eval o).run P w= .ok (.value v) w)(h:vx P ops S hb is (a.put o.dst v)):vx P ops S hb (i::is) a:=⟨o,v,ho,.inl ⟨hw,hv⟩,h⟩
theorem aj{ops:Array Oper}{S:World->Prop}{hb:Act->Prop}{i:Nat}{is:List Nat}{o:Oper}(v:Value)(h:vx P ops S hb is (a.put o.dst v))(ho:Zg ops.toList i=some o:=by exact J)(hw:Region.wanted o (yielded ops a.tmps)=true:=by exact J)(hv:∀w,S w->(execOp a.eval o).run P w= .ok (.value v) w:=by exact fun _ _=>rfl):vx P ops S hb (i::is) a:=⟨o,v,ho,.inl ⟨hw,hv⟩,h⟩
theorem ul{o:Oper}(E:TypeId)(x:Operand)(p:Addr){v:Value}(ho:o.op= .load E x)(hx:a.eval x= .pointer (some p))(hv:(Instr.loadAt E (.pointer (some p))).run P w= .ok v w):(execOp a.eval o).run P w= .ok (.value v) w:=by
 exact sD
theorem z6{o:Oper}(t:TypeId)(parts:Array (Nat×Operand))(ho:o.op= .build t parts)(vJ:Array (Nat×Value))(hv:parts.map (fun(i,x)=>(i,a.eval x))=vJ){v:Value}(hr:(Instr.build t vJ).run P w= .ok v w):(execOp a.eval o).run P w= .ok (.value v) w:=by
 exact sE
end
theorem Vq{k:Nat}(ht:prog.underlying t=some (.slice e))(hs:(prog.info? e).map (·.size)=some sz)(hz:0<sz)(O:k<n)(w:World):(Instr.indexAt t (.slice (some ⟨ba,oa,none⟩) n c) (.int .i64 k)).run prog w= .ok (.pointer (some ⟨ba,oa+k*sz,none⟩)) w:=by
 have U:(k:Int)<n:=I;obtain⟨i,hi,adT⟩:=Option.map_eq_some_iff.1 hs;simp[Instr.indexAt,run_underlying ht,asIntOf,sizeOf,typeInfo,hi,adT,U,Addr.add];rw[if_pos O];by_cases h0:k*sz=0
 ·rw[if_pos h0,h0];rfl
 ·rw[if_neg h0]
theorem yA{k:Nat}{o:Oper}(ht:prog.underlying t=some (.slice e))(hs:(prog.info? e).map (·.size)=some sz)(hz:0<sz)(x y:Operand)(ho:o.op= .indexAddr t x y)(hx:a.eval x= .slice (some ⟨ba,oa,none⟩) n c)(hy:a.eval y= .int .i64 k)(O:k<n)(w:World):(execOp a.eval o).run prog w= .ok (.value (.pointer (some ⟨ba,oa+k*sz,none⟩))) w:=by
 have hr:=Vq (ba:=ba) (oa:=oa) (c:=c) ht hs hz O w;exact sq
theorem yo{b o:Nat}{sub:List Value}{E:TypeId}{d:TypeDesc}(h:w.rangeAt b o sub)(hu:prog.underlying E=some d)(hd:d.isRow=true)(hi:(prog.info? E).map (·.size)=some sub.length):(Instr.loadAt E (.pointer (some ⟨b,o,none⟩))).run prog w= .ok (.agg sub.toArray) w:=run_loadAt_mid w b o E sub d h hu hd hi
set_option maxRecDepth 100000
def Qd(p:uV×Int):List Value:=p.1.cells++[.int .i64 p.2]
def pfZ:List Value:=Qd (uV.zero,0)
theorem Ka{p:uV×Int}(h:p.1.ip.length=16):(Qd p).length=19:=by simp[Qd,p.1.ur h]
theorem abg(p:uV×Int):∀v∈Qd p,v.oneCell'=true:=by
 intro v hv;rcases List.mem_append.1 hv with h|h
 ·exact p.1.xg v h
 ·simp at h;subst h;rfl
theorem Zh{p:uV×Int}(h:p.1.ip.length=16):((Qd p).drop 0).take 18=p.1.cells:=by rw[List.drop_zero];exact List.take_left' (p.1.ur h)
theorem Zi{p:uV×Int}(h:p.1.ip.length=16):(Qd p)[18]?=some (.int .i64 p.2):=by
 unfold Qd;rw[List.getElem?_append_right (by rw[p.1.ur h];omega),p.1.ur h];rfl
theorem NJ:(prog.info? 236).map (·.size)=some 19:=by kernel_rfl
theorem Hx:(prog.info? 236).map (fun i=>(i.zero,i.size,i.bytes))=some (some (.agg pfZ.toArray),19,40):=by kernel_rfl
def Pk(cs:List Value)(p:uV×Int):Prop:=cs=Qd p/\p.1.ip.length=16
abbrev ael(w:World)(B:Nat)(v:Value)(l:List (uV×Int)):Prop:=uy w B 236 19 Pk v l
abbrev ac5(w:World)(A:Option Addr)(l:List (uV×Int)):Prop:=LIn w 19 Pk A l
def Jt(a:uV):Int:=if a.fam=4 then 32 else if a.fam=6 then 128 else 0
def IG(p:uV×Int):Int:=if p.1.check≠0 then p.1.check else if p.2<0\/Jt p.1<p.2 then 4 else 0
def Q8(p:uV×Int):Bool:=IG p==0
theorem Zj(a:uV)(h:a.ip.length=16)(w:World):Calls prog 222 #[.agg a.cells.toArray] w (uf (.int .i64 (Jt a)) w):=by
 have c0:=(Z.new w 24 a.cells).K 0 (u:=.int .i64 a.fam) J;have HB:Below w.heap.size w (w.alloc (.cells a.cells.toArray 24)):=gj;have hb:Jt a=if a.fam=4 then 32 else if a.fam=6 then 128 else 0:=rfl
 have HK:=Y hb;clear hb h;generalize a.cells=L,a.fam=f at*;go_enter func222,ntmps222;exact pD
theorem WE(p:uV×Int)(h:p.1.ip.length=16)(w:World):Calls prog 185 #[.agg (Qd p).toArray] w (uf (.int .i64 (IG p)) w):=by
 have hcl:=Ka h;have hca:=Zh h;have B:=Z.new w 236 (Qd p);have c18:=B.K 18 (Zi h);have AC:=Y (fun W=>CO p.1 h W);have BA:=Y (fun W=>Zj p.1 h W);have HB:Below w.heap.size w (w.alloc (.cells (Qd p).toArray 236)):=gj;have hb:IG p=if p.1.check≠0 then p.1.check else if p.2<0\/Jt p.1<p.2 then 4 else 0:=rfl
 have HK:=Y hb;have HCA:=Y hca;clear hb h hca;generalize Qd p=L at*;generalize p.1.cells=h2,p.1.check=ck at*;generalize Jt p.1=bt at*;generalize p.2=n at*;go_enter func185,ntmps185;go_wp2_with(refine tO (.load 24 (.tmp 4)) J ?_;go_must(refine tP J _ _ J w.heap.size 0 J B 18 I _ underlying24 J AZ h2 HCA.out ?_));refine(AC.out _).mono ?_;rintro _ w1 ⟨rfl,b1⟩;have B1:=B.G b1 B.lt;have H1:=tL HB HB.size b1;have p18:L[18]?=some (.int .i64 n):=by rw[<-B.cell 18];exact c18
 clear b1 c18 HB AC;by_cases hck:ck=0
 case neg=>have aoS:(ck !=0)=true:=mR;rw[if_pos hck]at HK;clear hck B;go_wp2_with fail;go_ret;exact uf.mk cL H1
 have aoS:(ck !=0)=false:=mR;rw[if_neg (by simpa using hck)]at HK;have LD:Hid (∀V,al w1 V->(Instr.loadAt 3 (.pointer (some ⟨w.heap.size,18,none⟩))).run prog V= .ok (.int .i64 n) V):=jI;have LA:Hid (∀V,al w1 V->(Instr.loadAt 24 (.pointer (some ⟨w.heap.size,0,none⟩))).run prog V= .ok (.agg h2.toArray) V):=jq;clear hck B;go_wp2_with fail;by_cases hn:n<0
 case pos=>
  have hn':decide (n<0)=true:=cG;rw[if_pos (.inl hn)]at HK;refine wp_region_held_drew (S:=fun V=>al w1 V) (by kernel_rfl) (Below.refl _ _).drew (fun M=>?_);refine uh M 11 [0,1,2,3,4,5,6,7,8,9,10] J (by kernel_rfl) (fun _ _ _ _ _ h=>h) J J ?_;repeat(refine aj _ ?_;simp only[z])
  (refine ah _ J J (fun V hV=>(ul 3 (.tmp 10) ⟨w.heap.size,18,none⟩ J J (LD.out V hV))) ?_;simp only[z])
  repeat(refine aj _ ?_;simp only[z])
  simp only[hn'];repeat(refine⟨_,undef,J,.inr ⟨J,J⟩,?_⟩;simp only[z])
  repeat(refine aj _ ?_;simp only[z])
  simp only[vx];refine wpAnyH_done (by kernel_rfl) ?_ _;go_wp2_with fail;go_ret;exact uf.mk cL (tL H1 H1.size M)
 have hn':decide (n<0)=false:=cG;refine wp_region_held_drew (S:=fun V=>al w1 V) (by kernel_rfl) (Below.refl _ _).drew (fun M=>?_);refine uh M 8 [0,1,2,3,4,5,6,7] J (by kernel_rfl) (fun _ _ _ _ _ h=>h) J J ?_;repeat(refine aj _ ?_;simp only[z])
 (refine ah _ J J (fun V hV=>(ul 3 (.tmp 10) ⟨w.heap.size,18,none⟩ J J (LD.out V hV))) ?_;simp only[z])
 repeat(refine aj _ ?_;simp only[z])
 simp only[hn'];repeat(refine aj _ ?_;simp only[z])
 (refine ah _ J J (fun V hV=>(ul 3 (.tmp 14) ⟨w.heap.size,18,none⟩ J J (LD.out V hV))) ?_;simp only[z])
 repeat(refine aj _ ?_;simp only[z])
 (refine ah _ J J (fun V hV=>(ul 24 (.tmp 16) ⟨w.heap.size,0,none⟩ J J (LA.out V hV))) ?_;simp only[z])
 simp only[vx];refine uO 8 (some 18) 222 #[.agg h2.toArray] (by kernel_rfl) J J (by kernel_rfl) bm (BA.out _) ?_;rintro _ w2 ⟨rfl,b2⟩;refine⟨_,J,tL M M.size b2,?_⟩;have M:=tL M M.size b2;simp only[z];refine uh M 2 [9,10] J (by kernel_rfl) (fun _ _ _ _ _ h=>h) J J ?_;repeat(refine aj _ ?_;simp only[z])
 simp only[vx];refine wpAnyH_done (by kernel_rfl) ?_ _;have HE:Hid (IG p=if bt<n then 4 else 0):=Y (by rw[HK.out];by_cases h:bt<n<;>simp[h,hn]);clear HK LD LA b2 B1;by_cases F:bt<n;all_goals
  go_wp2_with fail;go_ret;exact uf.mk (by rw[HE.out];first|(rw[if_pos F];rfl)|(rw[if_neg I];rfl)) (tL H1 H1.size M)
theorem MG(p:uV×Int)(h:p.1.ip.length=16)(w:World):Calls prog 133 #[.agg (Qd p).toArray] w (uf (.bool (Q8 p)) w):=by
 have hcl:=Ka h;have AC:=Y (fun W=>WE p h W);have hb:Q8 p=(IG p==0):=rfl;have HK:=Y hb;clear hb;generalize Qd p=L at*;generalize IG p=ck at*;have HB:Below w.heap.size w (w.alloc (.cells L.toArray 236)):=gj;go_enter func133,ntmps133;go_wp2_with(refine tO (.load 236 (.tmp 1)) J ?_;go_must(refine tP J _ _ J w.heap.size 0 J (Z.new w 236 L) 19 I _ underlying236 J NJ L (wg I) ?_));exact rQ
theorem WH(A:Option Addr)(c:Nat)(l:List (uV×Int))(m:Nat)(w:World)(hA:ac5 w A l)(hl:l.length<=17592186044416)(hm:m<=100):
  Calls prog 132 #[.slice A l.length c,.int .i64 m,.func (.func 133) #[] #[]] w (DR 236 19 (fun _=>Pk) (yF Q8 l m) w):=by
 have ao3:pfZ.length=19:=rfl;obtain⟨p,hp⟩:∃p,p=Q8:=gp;have MS:=Y (fun a h W=>MG a h W);rw[<-hp]at MS⊢;clear hp;go_enter func132,ntmps132;go_wp2_with fail;go_loopw[7,12] (fun kv iv wr=>∃k:Nat,k<=l.length/\iv= .int .i64 k/\ael wr w.heap.size kv ((l.take k).filter p)/\((l.take k).filter p).length<=m/\al w wr) (fun _ iv _=>l.length-(intOf iv).toNat)
 case atStart=>exact⟨0,Nat.zero_le _,J,uy.nil _ _ _ _ _,ap,Below.refl _ _⟩
 obtain⟨k,O,rfl,ho,hle,hB⟩:=hrel;obtain⟨Ak,ck,hv⟩:=ho.form;subst hv;by_cases Hh:k<l.length
 case neg=>exact pb
 have tQ:(k:Int)<l.length:=I;obtain⟨b,off,rfl,F,hr⟩:=hA I;obtain⟨cs,hcs,hce,ty⟩:=hr k Hh;have hcs:=tX hcs hB F;have hcl:cs.length=19:=nM;have afx:∀v∈cs,v.oneCell'=true:=nU;have MK:Hid (∀W,Calls prog 133 #[.agg cs.toArray] W (uf (.bool (p l[k])) W)):=my;have HC:=Y hce;have HO:=Y ho;have HI:=Y ty;clear hce ty hr ho hA;have W1:Below wr.heap.size wr (wr.alloc (.cells pfZ.toArray 236)):=gj;by_cases ak8:((l.take k).filter p).length<m
 case neg=>
  have ahA:¬(((l.take k).filter p).length:Int)<m:=I;go_wp2_with(first
   |(refine tO (.load 236 (.tmp 14)) rfl ?_;go_must(refine vM rfl 236 (.tmp 14) rfl b (off+k*19) rfl cs hcs _ underlying236 rfl cT ?_))
   |(refine tO (.store 236 (.tmp 9) (.tmp 15)) rfl (ab rfl wr.heap.size 0 cs (Z.new wr 236 pfZ) cN cT afx ?_)))
  intro w1 B1 g1 _;have H1:=tN (tL hB hB.size W1) g1 aS hB.size;have K1:=tN W1 g1 W1.size (Nat.le_refl _);clear g1 B1 W1;go_wp2_with fail;go_ret;refine⟨_,J,?_,H1⟩;have e:((l.take k).filter p).length=m:=I;rw[Fo e];exact uy.G (R':=Pk) HO.out K1 (fun _ _ h=>h)
 have ahA:(((l.take k).filter p).length:Int)<m:=I;go_wp2_with(first
  |(refine tO (.load 236 (.tmp 14)) rfl ?_;go_must(refine vM rfl 236 (.tmp 14) rfl b (off+k*19) rfl cs hcs _ underlying236 rfl cT ?_))
  |(refine tO (.store 236 (.tmp 9) (.tmp 15)) rfl (ab rfl wr.heap.size 0 cs (Z.new wr 236 pfZ) cN cT afx ?_)))
 intro w1 B1 g1 _;have B1':=xG B1 I;have H1:=tN (tL hB hB.size W1) g1 aS hB.size;clear B1;go_wp2_with(refine tO (.load 236 (.tmp 9)) J ?_;go_must(refine tP J _ _ J wr.heap.size 0 J B1' 19 I _ underlying236 J NJ cs (wg I) ?_));refine(MK.out _).mono ?_;rintro _ w2 ⟨rfl,b2⟩;have B2:=B1'.G b2 B1'.lt;have H2:=tL H1 H1.size b2;have K2:=tL (tN W1 g1 W1.size (Nat.le_refl _)) cO b2;have O2:=uy.G (R':=Pk) HO.out K2 (fun _ _ h=>h);have FS:=Y (zv (p:=p) Hh);have hlen:((l.take k).filter p).length+1<=200:=I;clear MS MK hcs W1 g1 b2 B1' HO H1;cases hpk:p l[k]with
 |false=>exact qF
 |true=>
  rw[hpk]at FS;have K3:Below w2.heap.size w2 (w2.alloc (.cells cs.toArray 236)):=gj;have O3:=uy.G (R':=Pk) O2 K3 (fun _ _ h=>h);have N3:=O2.ne (Nat.le_refl _);clear hpk;go_wp2_with(first
   |(refine tO (.load 236 (.tmp 9)) rfl ?_;go_must(refine tP rfl _ _ rfl wr.heap.size 0 rfl B2 19 I _ underlying236 rfl NJ cs (wg I) ?_))
   |(refine tO (.buildSlice 67 1 #[(0,.tmp 24)]) rfl ?_;go_must(refine Cj rfl 67 236 _ 19 40 underlying67 Hx ax ax (.tmp 24) rfl cs rfl hcl ?_))
   |(at_builtin;go_must(refine xS _ rfl _ _ 67 rfl 236 _ 19 40 underlying67 Hx (by kernel_rfl) ax w.heap.size _ _ rfl O3 cP w2.heap.size cs l[k] rfl (Z.new _ _ _) N3 hcl afx ⟨HC.out,HI.out⟩ aJ I ?_)))
  intro v' w4 O4 g4;have H4:=(tL H2 H2.size K3).grown g4 cP O3.base;clear g4 K3 O3 O2 N3 B2 H2;exact ph
def Zk(w:World)(cs:List Value)(n:List (List UInt8)):Prop:=∃A c,cs=[.slice A n.length c]/\xj w A c n
abbrev ac6(w0 w:World)(B:Nat)(v:Value)(l:List (List (List UInt8))):Prop:=uy w B 26 1 (Zk w0) v l
theorem WJ{w':World}{A:Option Addr}{l:List (List (List UInt8))}(h:Hl w A l)(F:al w w'):Hl w' A l:=by
 intro hp;obtain⟨b,off,U,X,h3⟩:=h hp;refine⟨b,off,U,Nat.lt_of_lt_of_le X F.size,fun i hi=>?_⟩;obtain⟨Ai,ci,h4,h5⟩:=h3 i hi;exact⟨Ai,ci,(F.cell (p:=⟨b,off+i,none⟩) X).trans h4,h5.G F⟩
def GB(n:List (List UInt8)):Bool:=decide (0<n.length)&&(tY n==0)
theorem Pm:(prog.info? 26).map (fun i=>(i.zero,i.size,i.bytes))=some (some tS,1,24):=by kernel_rfl
theorem Rf(A:Option Addr)(c:Nat)(n:List (List UInt8))(hm:n.length<=281474976710656)(w:World)(h:zS w A n):Calls prog 131 #[.slice A n.length c] w (yi (.bool (GB n)) w):=by
 have DC:=Y (zc A c n w h hm);have hb:GB n=(decide (0<n.length)&&(tY n==0)):=rfl;have HK:=Y hb;clear hb h;generalize tY n=ck at*;go_enter func131,ntmps131;by_cases h0:0<n.length
 case neg=>have h0':decide (0<n.length)=false:=kj;have e:n.length=0:=I;rw[e]at DC⊢;rw[h0']at HK;clear h0 h0' e;go_wp2_with fail;go_ret;exact yi.mk cL J
 have h0':(0:Int)<n.length:=I;have asW:decide (0<n.length)=true:=kj;rw[asW]at HK;clear asW;go_wp2_with fail;refine DC.out.mono ?_;rintro _ w1 ⟨rfl,rfl⟩;go_wp2_with fail;go_ret;exact yi.mk cL J
theorem WK(w0:World)(A:Option Addr)(c:Nat)(l:List (List (List UInt8)))(m:Nat)(w:World)(hA:Hl w0 A l)(hw:al w0 w)(hl:l.length<=17592186044416)(hm:m<=100):
  Calls prog 130 #[.slice A l.length c,.int .i64 m,.func (.func 131) #[] #[]] w (DR 26 1 (fun _=>Zk w0) (yF GB l m) w):=by
 obtain⟨p,hp⟩:∃p,p=GB:=gp;have MS:=Y (fun A c n W U X=>Rf A c n W U X);rw[<-hp]at MS⊢;clear hp;go_enter func130,ntmps130;go_wp2_with fail;go_loopw[7,12] (fun kv iv wr=>∃k:Nat,k<=l.length/\iv= .int .i64 k/\ac6 w0 wr w.heap.size kv ((l.take k).filter p)/\((l.take k).filter p).length<=m/\al w wr) (fun _ iv _=>l.length-(intOf iv).toNat)
 case atStart=>exact⟨0,Nat.zero_le _,J,uy.nil _ _ _ _ _,ap,Below.refl _ _⟩
 obtain⟨k,O,rfl,ho,hle,hB⟩:=hrel;obtain⟨Ak,ck,hv⟩:=ho.form;subst hv;by_cases Hh:k<l.length
 case neg=>exact pb
 have tQ:(k:Int)<l.length:=I;obtain⟨b,off,rfl,F,hr⟩:=hA I;obtain⟨An,cn,ce,hnm⟩:=hr k Hh;have hBW:=tL hw hw.size hB;replace ce:=(hBW.cell (p:=⟨b,off+k,none⟩) F).trans ce;have hln:=hnm.2.2.1;have MK:=Y (MS.out An cn l[k] I wr (hnm.G hBW).1);have HO:=Y ho;have HI:=Y hnm;clear hr ho hA MS hnm hBW hw;by_cases ak8:((l.take k).filter p).length<m
 case neg=>exact rH
 have FS:=Y (zv (p:=p) Hh);have hlen:((l.take k).filter p).length+1<=200:=I;have NI:Hid (Zk w0 [.slice An l[k].length cn] l[k]):=Y ⟨An,cn,J,HI.out⟩;generalize l[k].length=nl at*;go_wp2_with fail;refine MK.out.mono ?_;rintro _ w2 ⟨rfl,rfl⟩;clear MK;cases hpk:p l[k]with
 |false=>exact qA
 |true=>rw[hpk]at FS;have K3:Below wr.heap.size wr (wr.alloc (.cells #[.slice An nl cn] 26)):=gj;have N3:=HO.out.ne (Nat.le_refl _);clear hpk;go_wp2_with(at_builtin;go_must(refine xS _ J _ _ 66 J 26 _ 1 24 underlying66 Pm (by kernel_rfl) ax w.heap.size _ _ J (uy.G (R':=Zk w0) HO.out K3 (fun _ _ h=>h)) aS wr.heap.size [.slice An nl cn] l[k] J (Z.new _ _ _) N3 J aO NI.out aJ I ?_));intro v' w4 O4 g4;have H4:=(tL hB hB.size K3).grown g4 aS HO.out.base;clear g4 K3 N3;exact ph
end Go.Proofs.YthnbcmlnpdabhaaGreat
