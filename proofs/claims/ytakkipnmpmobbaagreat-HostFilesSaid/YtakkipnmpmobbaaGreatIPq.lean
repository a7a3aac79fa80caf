/-
  Layer 35 (single),plain:one question,put for one name after the other.
-/
import Derived.Test.YtakkipnmpmobbaaGreatKEq
namespace Go.Proofs.YtakkipnmpmobbaaGreat
open _root_.Go.Proofs.Tryz
open Go.RowKit
set_option linter.unusedVariables false
set_option linter.unusedSimpArgs false
variable {T:List Value} {lo b g Hh gl:Nat} {v:Value} {a c w w':World} {e:TypeId}
def UD(x:Xc):Prop:=x.done=true->(x.vd=2\/x.vd=3\/x.vd=4\/x.vd=5)\/(x.vd=1/\∃f,uO x.q x.xZ.an 16 0 x.q.name none= .ok f)
theorem UD.open_{x:Xc}(h:x.done=false):UD x:=fun c=>absurd c (by rw[h];decide)
theorem OI{x:Xc}(h:x.done=false)(L:Lt)(lg:Nat):UD (wX x L lg).1:=UD.open_ ((Uw x L lg).1.trans h)
theorem VN{x:Xc}(h:x.done=false)(L:Lt):UD (Bp x L).1:=by
 unfold Bp;split
 ·exact OI h _ _
 ·
  intro _;show((if x.hard then(5:Int)else 4)=2\/_)\/_;left;cases hh:x.hard with
  |true=>exact .inr (.inr (.inr (by simp[hh])))
  |false=>exact .inr (.inr (.inl (by simp[hh])))
theorem CQ{x:Xc}(h:x.done=false)(L:Lt):UD (vD x L).1:=VN (x:={x with k:=x.k+1}) h L
theorem XZ(q:Qn)(m:tq):(vU q m=2\/vU q m=3\/vU q m=4\/vU q m=5)\/(vU q m=1/\∃f,uO q m.an 16 0 q.name none= .ok f):=by
 unfold vU;split
 ·rename_i f hf;exact .inr ⟨I,f,hf⟩
 ·
  rename_i e he;left;split
  ·exact .inr (.inr (.inr I))
  ·
   split
   ·exact .inr (.inl I)
   ·exact .inl I
theorem RD{x:Xc}(h:x.done=false)(L:Lt)(m:tq):UD (xY x L m).1:=by
 unfold xY;split
 ·exact fun _=>XZ x.q m
 ·
  split
  ·exact OI h _ _
  ·
   split
   ·exact OI h _ _
   ·
    split
    ·exact CQ (x:={x with hard:=true}) h L
    ·exact CQ h L
theorem aba{x:Xc}(h:UD x)(L:Lt)(e:Ev):UD (sK x L e).1:=by
 unfold sK;by_cases hd:x.done=true
 ·rw[if_pos hd];exact h
 ·
  have hd0:x.done=false:=by simpa using hd
  rw[if_neg hd];split
  ·
   split
   ·
    split
    ·exact CQ (x:={x with left:=x.left-1,d:=(wg x.d).1}) hd0 L
    ·exact UD.open_ hd0
   ·
    split
    ·exact RD (x:={x with d:=(te x.d e).1}) hd0 L _
    ·
     split
     ·exact CQ (x:={x with d:=(te x.d e).1}) hd0 L
     ·exact UD.open_ hd0
  ·
   split
   ·
    split
    ·exact CQ (x:={x with left:=x.left-1}) hd0 L
    ·exact UD.open_ hd0
   ·
    split
    ·exact RD hd0 L _
    ·exact UD.open_ hd0
theorem adk(tmo:Int)(vc ed:Bool)(q:Qn)(tr:List sg)(L:Lt):UD (Dv tmo vc ed q tr L).1:=by
 unfold Dv;split
 ·exact fun _=>.inl (.inr (.inl I))
 ·exact VN (x:=wY tmo vc ed q tr) I L
theorem BI(q:Qn)(l:List RR):∀(f k:Nat) (n:List (List UInt8)) (t:Option Int) (o:Fnd),uO q l f k n t= .ok o->o.ag7≠[]/\o.ag7=Hi l o.name q.Q q.cl
 |f,k,n,t,o,h=>by
  rw[Bo]at h;split at h
  ·rename_i r rs hr;injection h with h;subst h;exact⟨ar,hr.symm⟩
  ·
   split at h
   ·cases h
   ·
    split at h
    ·cases h
    ·exact BI q l _ _ _ _ o h
 termination_by f=>f
structure Sg where
 r:Rs
 nms:List (List (List UInt8))
 kind:Int
 turn:Int
 begun:Nat
 aKs:Option Xc
 q:Qn
 again:Bool
 aAk:Bool
 told:Nat
 r6:Nat
 done:Bool
 vd:Int
 ag7:List RR
 nm:List (List UInt8)
 ttl:Int
theorem VP(h:T.length=10)(M:List Value)(i:Nat):(T++M)[10+i]?=M[i]?:=by
 rw[List.getElem?_append_right Y,h,Nat.add_sub_cancel_left]
theorem OJ(h:T.length=10)(M:List Value)(i:Nat)(v:Value):(T++M).set (10+i) v=T++M.set i v:=by
 rw[List.set_append,if_neg Y,h,Nat.add_sub_cancel_left]
theorem abb(h:T.length=10)(M:List Value)(i:Nat):(T++M).drop (10+i)=M.drop i:=by
 rw[List.drop_append,List.drop_of_length_le Y,List.nil_append,h,Nat.add_sub_cancel_left]
theorem abc(h:T.length=10)(M:List Value)(i:Nat):(T++M).take (10+i)=T++M.take i:=by
 rw[List.take_append,List.take_of_length_le Y,h,Nat.add_sub_cancel_left]
theorem adl(h:T.length=10)(M qs:List Value)(i:Nat):(T++M).take (10+i)++qs++(T++M).drop (10+i+qs.length)=T++(M.take i++qs++M.drop (i+qs.length)):=by
 rw[abc h,show 10+i+qs.length=10+(i+qs.length)by omega,abb h,List.append_assoc,List.append_assoc,List.append_assoc]
section
variable {w:World} {g:Nat} {T:List Value} {vn vq vt vr vm:Value} {gl:Nat} {pp:Option Nat} {s:Sg}
end
section
variable {w:World} {g:Nat} {T:List Value} {vn vq vt vr vm:Value} {gl:Nat} {pp:Option Nat} {s:Sg}
end
theorem Ef(w:World)(Hh:Nat)(hB:Hh<=w.heap.size)(e:TypeId)(k:Nat):(w.alloc (.cells #[] e)).ownsRow Hh e k (.slice (some ⟨w.heap.size,0,none⟩) 0 0) 0 []:=by
 refine⟨ar,.inr ⟨w.heap.size,0,#[],I,hB,heap_alloc_new w _,Nat.le_refl _,by simp[maxLen],ar,ar⟩⟩
theorem RI(A:Option Addr)(n c:Nat)(w:World):(binOp BinOp.eql 43 (.slice A n c) (.slice none 0 0)).run prog w= .ok (.bool A.isNone) w:=by
 cases A<;>kernel_rfl
def ae2(o:List Ou)(w:World)(e:Ending)(w':World):Prop:=∃v',e= .returned v'/\tf w.heap.size w' v' o/\ao w w'
theorem Hk{o:List Ou}(w:World)(h:tf lo w v o)(E:o.length<=1000):Calls prog 44 #[v] w (ae2 o w):=by
 obtain⟨A,c,rfl,hR,rH⟩:=h.form;cases A with
 |none=>
  have h0:o=[]:=by
   cases o with
   |nil=>rfl
   |cons x l=>obtain⟨b,off,e,_⟩:=hR.2 ar;cases e
  subst h0;have EN:=RI none 0 c;clear h hR rH;go_enter func44,ntmps44;go_wp2_with fail;go_ret;exact⟨_,I,tf.nil _ _,Below.refl _ _⟩
 |some ad=>
  have EN:=RI (some ad) o.length c;have kb:Below w.heap.size w (w.alloc (.cells #[] 106)):=fZ;have H0:Hid (tf w.heap.size (w.alloc (.cells #[] 106)) (.slice (some ⟨w.heap.size,0,none⟩) 0 0) []):=J ⟨[],Ef w _ (Nat.le_refl _) _ _,trivial⟩;have HO:=J (h.G kb);clear h hR rH;go_enter func44,ntmps44;go_wp2_with(at_builtin;go_must(refine uw _ I (.tmp 5) (.tmp 6) I I I H0.out HO.out kb.size aB ?_));intro v' w' ho hf;have HB:ao w w':=by
   refine kb.trans ⟨hf.os,hf.tape,hf.output,hf.size,fun i hi=>?_⟩;rcases hf.block i (Nat.lt_of_lt_of_le hi kb.size)with e|⟨e,_⟩
   ·exact e
   ·simp[Value.ownBlock]at e;omega
  have HO':=J ho;clear H0 HO ho hf kb;go_wp2_with fail;go_ret;exact⟨_,I,HO'.out,HB⟩
section
variable {w:World} {g:Nat} {T:List Value} {vn vq vt vr vm:Value} {gl:Nat} {pp:Option Nat} {s:Sg}
def ae3:List Value:=[.int .i64 0,rI,rI,.int .i64 0]
end
theorem X7{α:Type}(p:α->Bool):∀(l:List α) (n:Nat),(∀x∈l,p x=true)->l.length<=n->sL p l n=l:=by
 intro l n U F;unfold sL;rw[List.filter_eq_self.2 U,List.take_of_length_le F]
theorem Hl{α:Type}(p:α->Bool)(l:List α)(n:Nat):sL p (sL p l n) n=sL p l n:=by
 refine X7 p _ n (fun x hx=>?_) ?_
 ·unfold sL at hx;exact(List.mem_filter.1 (List.mem_of_mem_take hx)).2
 ·unfold sL;rw[List.length_take];omega
theorem Hm(r:Rs):rT (rT r)=rT r:=by
 unfold rT;have h0:sL zi [tX 127 0 0 1] 3=[tX 127 0 0 1]:=K;simp only[Hl];congr 1
 ·
  split
  ·rw[h0];simp
  ·rename_i h;simp only[Hl];rw[if_neg h]
 all_goals omega
set_option maxRecDepth 100000
def wj(w:World)(p:TypeId->Prop)(b i:Nat):Prop:=b<=i/\∃t L,N w i t L/\p t
theorem Fr.uP{d:World}{p:TypeId->Prop}(h:Fr (wj a p b) a c)(k:Fr (wj c p b) c d):Fr (wj a p b) a d:=
 ⟨k.os.trans h.os,k.tape.trans h.tape,k.output.trans h.output,Nat.le_trans h.size k.size,fun i hi=>by
  rcases h.block i hi with e|e
  ·
   rcases k.block i (Nat.lt_of_lt_of_le hi h.size)with e'|⟨⟨Z,t,L,hB,hp⟩,t',cs,hb',ht⟩
   ·exact .inl (e'.trans e)
   ·exact .inr ⟨⟨Z,t,L,e.symm.trans hB,hp⟩,t',cs,e.symm.trans hb',ht⟩
  ·
   exact .inr e⟩
theorem Fr.RJ{p q:TypeId->Prop}(h:Fr (wj a p b) a c)(k:∀t,p t->q t):Fr (wj a q b) a c:=h.mono (fun i ⟨U,t,L,F,h3⟩=>⟨U,t,L,F,k t h3⟩)
theorem wj.not{p:TypeId->Prop}{t:TypeId}{L:List Value}(Z:N w g t L)(hp:¬p t):¬wj w p b g:=by
 rintro⟨_,t',L',h,h'⟩;unfold N at h Z;rw[Z]at h;injection h with h;injection h with _ e;exact hp (e▸h')
theorem Fr.tD{w0:World}{p:TypeId->Prop}(h:Fr (wj w p b) w w')(Z:Below Hh w0 w)(U:Hh<=w.heap.size)(F:Hh<=b):Below Hh w0 w':=h.acv Z U (fun i hi k=>by have:=k.1;omega)
theorem tJ.dl{D:Option Nat}{x:Xc}(h:tJ w g gl D x):∀i,D=some i->∃L,N w i 243 L:=by
 intro i hi;obtain⟨_,vn,hs,eb,qs,_,U,F⟩:=h;cases hd:x.done with
 |true=>rw[U hd]at hi;cases hi
 |false=>
  obtain⟨_,_,_,h3,h4⟩:=F hd;by_cases E:x.lg=2
  ·obtain⟨gd,e,h5⟩:=h4 E;rw[hi]at e;injection e with e;subst e;exact h5.aa1
  ·rw[h3 E]at hi;cases hi
theorem tJ.yu{p:TypeId->Prop}{D:Option Nat}{x:Xc}(h:tJ w g gl D x)(k:Fr (wj w p b) w w')(U:¬p 173)(F:¬p 243):tJ w' g gl D x:=by
 obtain⟨L,hL⟩:=h.sD;exact h.fr k (wj.not hL U) (fun i L _ Z=>wj.not Z F)
theorem sE.yu{p:TypeId->Prop}{L:Lt}(h:sE w g L)(k:Fr (wj w p b) w w')(U:¬p 99):sE w' g L:=by
 obtain⟨cs,hL⟩:=vj h;exact h.fr k (wj.not hL U)
theorem Fr.OL{p:TypeId->Prop}{s n:Nat}{xs:List Value}(h:Fr (wj w p b) w w')(ho:w.ownsRow Hh e s v n xs)(he:¬p e):w'.ownsRow Hh e s v n xs:=by
 obtain⟨h0,ho⟩:=ho;refine⟨h0,?_⟩;rcases ho with ho|⟨g,cap,cur,hv,hB,hg,r⟩
 ·exact .inl ho
 ·exact .inr ⟨g,cap,cur,hv,hB,h.sD (g:=g) (t:=e) (cs:=cur.toList) hg (wj.not (L:=cur.toList) hg he),r⟩
theorem tf.frY{p:TypeId->Prop}{l:List Ou}(h:tf lo w v l)(k:Fr (wj w p b) w w')(he:¬p 106):tf lo w' v l:=by
 obtain⟨css,U,F⟩:=h;exact⟨css,k.OL U he,F⟩
theorem XS.Q{D:Option Nat}{x:Xc}{L:Lt}{p:TypeId->Prop}(h:tJ w g gl D x)(E:sE w gl L)(hg:b<=g)(hgl:b<=gl)(hD:∀i,D=some i->b<=i)(p1:p 173)(p2:p 99)(p3:p 243):∀i,XS g gl D i->wj w p b i:=by
 intro i hi;rcases hi with rfl|rfl|hi
 ·obtain⟨L,hL⟩:=h.sD;exact⟨hg,_,_,hL,p1⟩
 ·obtain⟨L,hL⟩:=vj E;exact⟨hgl,_,_,hL,p2⟩
 ·obtain⟨L,hL⟩:=h.dl i hi;exact⟨hD i hi,_,_,hL,p3⟩
def XTy(t:TypeId):Prop:=t=173\/t=99\/t=243
theorem rJ.OM{α:Type}{R:List Value->α->Prop}{k:Nat}{l:List α}{p:TypeId->Prop}(h:rJ w b e k R v l)(hg:w.grownBy w' v.ownBlock)(he:KH e)(hp:p e):Fr (wj w p b) w w':=by
 obtain⟨css,U,_⟩:=h;rcases U.2 with⟨hv,_⟩|⟨g',cap,cur,hv,hB,Z,_⟩
 ·exact pG
 ·subst hv;exact Fr.grown (g:=g') (cs:=cur.toList) hg Z he ⟨hB,_,cur.toList,Z,hp⟩
theorem Im:(prog.info? 186).map (fun i=>(i.zero,i.size,i.bytes))=some (some (.agg (qC rI ⟨[],0,0⟩++(Value.int .i64 0::sV)).toArray),18,184):=by kernel_rfl
theorem af6(a b c o0 o1 o2 o3 o4 o5 o6 o7 o8 o9 o10 o11 o12 o13 o14:Value)(W:World):(Instr.build 186 #[(0,.agg #[a,b,c]),(1,.agg [o0,o1,o2,o3,o4,o5,o6,o7,o8,o9,o10,o11,o12,o13,o14].toArray)]).run prog W= .ok (.agg (a::b::c::[o0,o1,o2,o3,o4,o5,o6,o7,o8,o9,o10,o11,o12,o13,o14]).toArray) W:=by kernel_rfl
theorem abe(a b c:Value)(agB:List Value)(h:agB.length=15)(W:World):(Instr.build 186 #[(0,.agg #[a,b,c]),(1,.agg agB.toArray)]).run prog W= .ok (.agg (a::b::c::agB).toArray) W:=by
 match agB,h with
 |[o0,o1,o2,o3,o4,o5,o6,o7,o8,o9,o10,o11,o12,o13,o14],_=>exact af6 ..
theorem OP{P:Program}{ops:Array Oper}{hb:Exit->Act->World->Prop}{al:Act->World->Prop}{o:Oper}{a:Act}(i:Nat)(Q:TypeId)(x y:Operand)(hi:ops[i]?=some o)(hd:o.dst=none)(ho:o.op= .store Q x y)(hw:Region.wanted o (yielded ops a.tmps)=true)
  (g off:Nat) (hx:a.eval x= .pointer (some ⟨g,off,none⟩)) (sub:List Value) (hy:a.eval y= .agg sub.toArray) {t:TypeId} {L:List Value} (Z:N w g t L) (hn:off+sub.length<=L.length) (anB:(P.info? Q).map (·.size)=some sub.length) (U:∀v∈sub,v.oneCell'=true)
  (h:∀w',N w' g t (L.take off++sub++L.drop (off+sub.length))->w.grownBy w' (some g)->w'.heap.size=w.heap.size->al (a.put none undef) w'):wpOp P ops hb i al a w:=by
 have hst:=U8 (P:=P) Z hn anB U;refine Px i none hi hd hw (w':=w.setCells g off sub) ?_ (h _ (N.setCells (w:=w) sub L off Z hn) (xM sub (World.grownBy.refl _ _)) (yr sub w g off));exact oN
section
variable {w:World} {g:Nat} {T:List Value} {vn vq vt vr vm:Value} {gl:Nat} {pp:Option Nat} {s:Sg}
end
end Go.Proofs.YtakkipnmpmobbaaGreat
