/-
  What stays when the blocks of exchanges,dials and lots are written:a frame by blocks and their types.
-/
import Derived.Test.YthnbcmlnpdabhaaGreatHGz
namespace Go.Proofs.YthnbcmlnpdabhaaGreat
open _root_.Go.Proofs.Tryz
set_option maxHeartbeats 8000000
open Go.RowKit
set_option maxRecDepth 100000
set_option linter.unusedVariables false
set_option linter.unusedSimpArgs false
variable {S S':Nat->Prop} {a:Act} {b w w':World} {g B s n m:Nat} {t e:TypeId} {cs:List Value} {v:Value} {P:Program} {ops:Array Oper} {rest:List Oper} {o:Oper} {A:Option Addr}
def QZ(t:TypeId):Prop:=t=152\/t=177\/t=180\/t=86\/t=163\/t=90\/t=97\/t=185\/t=200\/t=197\/t=76\/t=999999
def StT(w:World)(i:Nat):Prop:=∃t cs,Z w i t cs/\QZ t
structure Fr (S:Nat->Prop) (w w':World):Prop where
 os:w'.os=w.os
 tape:w'.tape=w.tape
 output:w'.output=w.output
 size:w.heap.size<=w'.heap.size
 block:∀i,i<w.heap.size->w'.heap[i]?=w.heap[i]?\/(S i/\StT w i)
theorem Fr.trans{a c:World}(h:Fr S a b)(k:Fr S' b c)(M:∀i,i<a.heap.size->S' i->S i):Fr S a c:=
 ⟨k.os.trans h.os,k.tape.trans h.tape,k.output.trans h.output,Nat.le_trans h.size k.size,fun i hi=>by
  rcases h.block i hi with e|e
  ·
   rcases k.block i (Nat.lt_of_lt_of_le hi h.size)with e'|⟨e',t,cs,F,ht⟩
   ·exact .inl (e'.trans e)
   ·exact .inr ⟨M i hi e',t,cs,e.symm.trans F,ht⟩
  ·
   exact .inr e⟩
theorem Fr.mono{a:World}(h:Fr S a b)(M:∀i,S i->S' i):Fr S' a b:=⟨h.os,h.tape,h.output,h.size,fun i hi=>(h.block i hi).imp id (fun⟨x,y⟩=>⟨M i x,y⟩)⟩
theorem Fr.G(h:al w w'):Fr S w w':=⟨h.os,h.tape,h.output,h.size,fun i hi=>.inl (h.block i hi)⟩
theorem Fr.grown(h:w.grownBy w' (some g))(F:Z w g t cs)(ht:QZ t)(hg:S g):Fr S w w':=⟨h.os,h.tape,h.output,h.size,fun i hi=>by
 by_cases e:i=g
 ·subst e;exact .inr ⟨hg,t,cs,F,ht⟩
 ·
  exact .inl (h.block i hi (by simpa using e))⟩
theorem Fr.zN{a:World}(h:Fr S w w')(F:Below B a w)(hB:B<=w.heap.size)(M:∀i,i<B->¬S i):Below B a w':=
 ⟨h.os.trans F.os,h.tape.trans F.tape,h.output.trans F.output,Nat.le_trans F.size h.size,fun i hi=>by
  rcases h.block i (Nat.lt_of_lt_of_le hi hB)with e|e
  ·exact e.trans (F.block i hi)
  ·
   exact absurd e.1 (M i hi)⟩
theorem Fr.uG(h:Fr S w w')(F:Z w g t cs)(hg:¬S g):Z w' g t cs:=by
 rcases h.block g F.lt with e|e
 ·exact e.trans F
 ·exact absurd e.1 hg
theorem Fr.Lj(h:Fr S w w')(F:Z w g t cs)(ht:¬QZ t):Z w' g t cs:=by
 rcases h.block g F.lt with e|⟨_,t',cs',hb',ht'⟩
 ·exact e.trans F
 ·unfold Z at F hb';rw[F]at hb';injection hb' with hb';injection hb' with _ e;exact absurd (e▸ht') ht
theorem Fr.own{xs:List Value}(h:Fr S w w')(ho:w.ownsRow B e s v n xs)(he:¬QZ e):w'.ownsRow B e s v n xs:=by
 obtain⟨h0,ho⟩:=ho;refine⟨h0,?_⟩;rcases ho with ho|⟨g,cap,cur,hv,hB,hg,r⟩
 ·exact .inl ho
 ·exact .inr ⟨g,cap,cur,hv,hB,h.Lj (g:=g) (t:=e) (cs:=cur.toList) hg he,r⟩
theorem Lk(w:World)(t E:TypeId)(e:TypeId)(acZ:Value)(size bytes:Nat)(ht:P.underlying t=some (.slice e))(hi:(P.info? e).map (fun i=>(i.zero,i.size,i.bytes))=some (some acZ,size,bytes))(hzs:acZ.cells.size=size)(hsz:0<size)
  (B:Nat) (v:Value) (n:Nat) (xs:List Value) (adV:w.ownsRow B e size v n xs) (hB:B<=w.heap.size) (A:Option Addr) (m c:Nat) (news:List Value) (hn:0<m->∃b off,A=some ⟨b,off,none⟩/\w.rangeAt b off news) (hl:news.length=m*size) (U:∀u∈news,u.oneCell'=true) (h63:n+m<=maxLen) (afT:(n+m)*bytes<=140737488355328):
  ∃v' w',(Builtin.append_ #[t,t] E #[v,.slice A m c]).run P w= .ok v' w'/\w'.ownsRow B e size v' (n+m) (xs++news)/\w.grownBy w' v.ownBlock:=by
 obtain⟨i,hi,hz,adT,hby⟩:=info_parts hi;by_cases hm:0<m
 ·
  obtain⟨b,off,rfl,hr⟩:=hn hm;obtain⟨v',w',hr,X,h3,_,h5⟩:=run_append_own_at (P:=P) w B t E e i _ size bytes ht hi hz adT hby hzs I v n xs adV ⟨b,off,none⟩ m c news hl (fun j u hu=>by
   have agp:(⟨b,off,none⟩:Addr).add j=⟨b,off+j,none⟩:=gM;rw[agp];exact hr j u hu) U h63 afT hB
  exact sR
 ·
  obtain rfl:m=0:=I;have akW:news=[]:=gV;subst akW;have hv:∃A' c',v= .slice A' n c'/\n<=c':=by exact pQ
  obtain⟨A',c',rfl,agw⟩:=hv;refine⟨.slice A' n c',w,?_,fX,World.grownBy.refl _ _⟩;cases A with
  |none=>cases A'<;>simp[Builtin.append_,run_underlying ht,sizeOf,typeInfo,hi,adT,Builtin.lenOf,agw,Builtin.firstCells,storeCells]
  |some ad=>have hl0:(loadCells ad 0).run P w= .ok #[] w:=rfl;cases A'<;>simp[hl0,Builtin.append_,run_underlying ht,sizeOf,typeInfo,hi,adT,Builtin.lenOf,agw,Builtin.firstCells,storeCells]
theorem zu(w:World){Q:Exit->Act->World->Prop}(hgd:o.guard=none)(s x:Operand)(t:TypeId)
  (ho:o.op= .call {callee:=.builtin .append,args:= #[s,x],argTypes:= #[t,t]})
  (e:TypeId) (acZ:Value) (size bytes:Nat) (ht:P.underlying t=some (.slice e)) (hi:(P.info? e).map (fun i=>(i.zero,i.size,i.bytes))=some (some acZ,size,bytes)) (hzs:acZ.cells.size=size) (hsz:0<size)
  (B:Nat) (v:Value) (n:Nat) (xs:List Value) (hs:a.eval s=v) (adV:w.ownsRow B e size v n xs) (hB:B<=w.heap.size) (A:Option Addr) (m c:Nat) (news:List Value) (hx:a.eval x= .slice A m c)
  (hn:0<m->∃b off,A=some ⟨b,off,none⟩/\w.rangeAt b off news) (hl:news.length=m*size) (U:∀u∈news,u.oneCell'=true) (h63:n+m<=maxLen) (afT:(n+m)*bytes<=140737488355328) (k:Nat) (O:k=n+m)
  (h:∀A' c' w',w'.ownsRow B e size (.slice A' k c') k (xs++news)->w.grownBy w' v.ownBlock->wpList P ops Q rest (a.put o.dst (.slice A' k c')) w'):
  wpList P ops Q (o::rest) a w:=by
 subst O;refine wpList_plain hgd fun hb hK=>?_
 obtain⟨v',w',hr,X,h3⟩:=Lk w t o.type e acZ size bytes ht hi hzs hsz B v n xs adV hB A m c news hn hl U h63 afT;exact pg
theorem Dn{c:Nat}{xs:List Value}(h:w.ownsRow B e s (.slice A n c) n xs)(hn:0<n)(hl:xs.length=n*s):∃g L,A=some ⟨g,0,none⟩/\Z w g e L/\L.take (n*s)=xs/\B<=g:=by
 rcases h.2 with⟨_,h0⟩|⟨g,cap,cur,hv,hB,hg,hc,hm,hs,ht⟩
 ·omega
 ·injection hv with U X h3;exact⟨g,cur.toList,U,hg,ht,hB⟩
def LIn{α:Type}(w:World)(k:Nat)(R:List Value->α->Prop)(A:Option Addr)(l:List α):Prop:=0<l.length->∃b off,A=some ⟨b,off,none⟩/\b<w.heap.size/\∀i (hi:i<l.length),∃cs,w.rangeAt b (off+i*k) cs/\R cs l[i]
theorem LIn.mono{α:Type}{k:Nat}{R R':List Value->α->Prop}{l:List α}(h:LIn w k R A l)(F:al w w')(hm:∀cs x,R cs x->R' cs x):LIn w' k R' A l:=by
 intro hp;obtain⟨b,off,U,X,h3⟩:=h hp;refine⟨b,off,U,Nat.lt_of_lt_of_le X F.size,fun i hi=>?_⟩;obtain⟨cs,h4,h5⟩:=h3 i hi;exact⟨cs,tX h4 F X,hm _ _ h5⟩
theorem uy.G{α:Type}{k:Nat}{R R':List Value->α->Prop}{l:List α}(h:uy w B e k R v l)(F:al w w')(hm:∀cs x,R cs x->R' cs x):uy w' B e k R' v l:=h.ue (fun _ x=>vQ x F) hm
theorem uy.nil{α:Type}(w:World)(B:Nat)(e:TypeId)(k:Nat)(R:List Value->α->Prop):uy w B e k R tS []:=⟨[],World.ownsRow_nil _ _ _ _,trivial⟩
theorem uy.ne{α:Type}{k:Nat}{R:List Value->α->Prop}{l:List α}(h:uy w B e k R v l)(hg:w.heap.size<=g):v.ownBlock≠some g:=by
 obtain⟨_,ho,_⟩:=h;intro e;have:=(ho.lt g e).2;omega
theorem uy.base{α:Type}{k:Nat}{R:List Value->α->Prop}{l:List α}(h:uy w B e k R v l):∀g,v.ownBlock=some g->B<=g:=by
 obtain⟨_,ho,_⟩:=h;exact yI ho
theorem uy.uG{α:Type}{k:Nat}{R:List Value->α->Prop}{l:List α}(h:uy w B e k R v l)(hg:w.grownBy w' (some g))(F:Z w g t cs)(ht:t≠e):uy w' B e k R v l:=h.ue (fun _ x=>Bi x hg F ht) (fun _ _ x=>x)
theorem uL(w:World)(g i:Nat)(u:Value):w.grownBy (w.setCell ⟨g,i,none⟩ u) (some g):=uq (World.grownBy.refl _ _) i u
theorem uy.zero{α:Type}{k:Nat}{R:List Value->α->Prop}{l:List α}(h:uy w B e k R v l):uy w 0 e k R v l:=by
 obtain⟨css,U,X⟩:=h;exact⟨css,Cg U,X⟩
theorem uy.Wm{α:Type}{k:Nat}{R:List Value->α->Prop}{v v':Value}{l:List α}{css:List (List Value)}{x:α}(h:Bh R css l)(ho:w.ownsRow B e k v' (l.length+1) (css.flatten++cs))(hx:R cs x):uy w B e k R v' (l++[x]):=by
 refine⟨css++[cs],?_,h.Wm hx⟩;rw[List.length_append,List.length_singleton,List.flatten_append];simpa using ho
theorem xG{L h2:List Value}(h:Z w g t (L++h2.drop n))(hM:h2.length<=n):Z w g t L:=by
 exact rn
theorem Ph(w:World)(t e:TypeId)(acZ:Value)(n bytes:Nat)(ht:P.underlying t=some (.slice e))(hi:(P.info? e).map (fun i=>(i.zero,i.size,i.bytes))=some (some acZ,n,bytes))(hn:0<n)(hn2:n<=1000)(cs:List Value)(hl:cs.length=n):(Instr.buildSlice t 1 #[(0,.agg cs.toArray)]).run P w= .ok (.slice (some ⟨w.heap.size,0,none⟩) 1 1) (w.alloc (.cells cs.toArray e)):=by
 obtain⟨i,hi,hz,adT,hby⟩:=info_parts hi;refine run_buildSlice w t e 1 _ cs.toArray i _ ht hi hz (by rw[adT];omega) (by rw[adT];omega) ?_;rw[adT];have:=Hw n ((Array.range (1*n)).map (acZ.cells[· %acZ.cells.size]!)).toList cs hl ap;exact rP
theorem Cj{Q:Exit->Act->World->Prop}(hgd:o.guard=none)(t e:TypeId)(acZ:Value)(n bytes:Nat)(ht:P.underlying t=some (.slice e))(hi:(P.info? e).map (fun i=>(i.zero,i.size,i.bytes))=some (some acZ,n,bytes))(hn:0<n)(hn2:n<=1000)
  (x:Operand) (ho:o.op= .buildSlice t 1 #[(0,x)]) (cs:List Value) (hx:a.eval x= .agg cs.toArray) (hl:cs.length=n)
  (h:wpList P ops Q rest (a.put o.dst (.slice (some ⟨w.heap.size,0,none⟩) 1 1)) (w.alloc (.cells cs.toArray e))):wpList P ops Q (o::rest) a w:=by
 refine wpList_plain hgd fun hb hK=>?_
 unfold Oper.wp execOp;simp only[ho,Sem.run_bind,Sem.run_pure,Result.andThen_ok,List.map_toArray,List.map_cons,List.map_nil,hx,Ph w t e acZ n bytes ht hi hn hn2 cs hl];exact hK _ _ h
theorem xS(w:World){Q:Exit->Act->World->Prop}(hgd:o.guard=none)(s x:Operand)(t:TypeId)
  (ho:o.op= .call {callee:=.builtin .append,args:= #[s,x],argTypes:= #[t,t]})
  (e:TypeId) (acZ:Value) (size bytes:Nat) (ht:P.underlying t=some (.slice e)) (hi:(P.info? e).map (fun i=>(i.zero,i.size,i.bytes))=some (some acZ,size,bytes)) (hzs:acZ.cells.size=size) (hsz:0<size)
  {α:Type} {R:List Value->α->Prop} (B:Nat) (v:Value) (l:List α) (hs:a.eval s=v) (h:uy w B e size R v l) (hB:B<=w.heap.size) (g:Nat) (cs:List Value) (r:α) (hx:a.eval x= .slice (some ⟨g,0,none⟩) 1 1) (F:Z w g e cs) (hg:v.ownBlock≠some g)
  (hl:cs.length=size) (U:∀u∈cs,u.oneCell'=true) (hr:R cs r) (h63:l.length+1<=maxLen) (afT:(l.length+1)*bytes<=140737488355328)
  (O:∀v' w',uy w' B e size R v' (l++[r])->w.grownBy w' v.ownBlock->wpList P ops Q rest (a.put o.dst v') w'):
  wpList P ops Q (o::rest) a w:=by
 obtain⟨css,adV,hE⟩:=h;refine zu w hgd s x t ho e acZ size bytes ht hi hzs hsz B v l.length css.flatten hs adV hB (some ⟨g,0,none⟩) 1 1 cs hx (fun _=>⟨g,0,J,fun j u hu=>by rw[Nat.zero_add];exact F.K j hu⟩) I U h63 afT _ J ?_;intro A' c' w' ho' hg';exact O _ w' (uy.Wm (v:=v) hE ho' hr) hg'
theorem uy.one{α:Type}{R:List Value->α->Prop}(k:Nat){x:α}(F:Z w g e cs)(hl:cs.length=k)(hr:R cs x):uy w 0 e k R (.slice (some ⟨g,0,none⟩) 1 1) [x]:=by
 refine⟨[cs],⟨by simp[hl],.inr ⟨g,1,cs.toArray,J,Nat.zero_le _,F,Nat.le_refl _,by simp[maxLen],by simp[hl],?_⟩⟩,hr,trivial⟩;exact pX
theorem Ck{Q:Exit->Act->World->Prop}(hgd:o.guard=none)(t e:TypeId)(acZ:Value)(n bytes:Nat)(ht:P.underlying t=some (.slice e))(hi:(P.info? e).map (fun i=>(i.zero,i.size,i.bytes))=some (some acZ,n,bytes))(hn:0<n)(hn2:n<=1000)
  (x:Operand) (ho:o.op= .buildSlice t 1 #[(0,x)]) (cs:List Value) (hx:a.eval x= .agg cs.toArray) (hl:cs.length=n)
  (h:∀w',Z w' w.heap.size e cs->al w w'->wpList P ops Q rest (a.put o.dst (.slice (some ⟨w.heap.size,0,none⟩) 1 1)) w'):wpList P ops Q (o::rest) a w:=
 Cj hgd t e acZ n bytes ht hi hn hn2 x ho cs hx hl (h _ (Z.new w e cs) ((Below.refl _ _).alloc (Nat.le_refl _) _))
theorem AZ:(prog.info? 24).map (·.size)=some 18:=by kernel_rfl
theorem yS:(prog.info? 24).map (fun i=>(i.zero,i.size,i.bytes))=some (some (.agg uV.zero.cells.toArray),18,32):=by kernel_rfl
def Cl(cs:List Value)(a:uV):Prop:=cs=a.cells/\a.ip.length=16
theorem Cl.len{a:uV}(h:Cl cs a):cs.length=18:=by rw[h.1];exact a.ur h.2
abbrev y8(w:World)(B:Nat)(v:Value)(l:List uV):Prop:=uy w B 24 18 Cl v l
abbrev ac3(w:World)(A:Option Addr)(l:List uV):Prop:=LIn w 18 Cl A l
def yF{α:Type}(p:α->Bool)(l:List α)(m:Nat):List α:=(l.filter p).take m
theorem Fo{α:Type}{p:α->Bool}{l:List α}{k:Nat}(h:((l.take k).filter p).length=m):yF p l m=(l.take k).filter p:=by
 unfold yF;have e:l.filter p=(l.take k).filter p++(l.drop k).filter p:=by rw[<-List.filter_append,List.take_append_drop]
 rw[e,List.take_append_of_le_length I,List.take_of_length_le I]
theorem Q5{α:Type}{p:α->Bool}{l:List α}(h:(l.filter p).length<=m):yF p l m=l.filter p:=List.take_of_length_le h
theorem zv{α:Type}{p:α->Bool}{l:List α}{k:Nat}(O:k<l.length):(l.take (k+1)).filter p=(l.take k).filter p++(if p l[k]then[l[k]]else[]):=by
 rw[List.take_succ_eq_append_getElem O,List.filter_append];cases h:p l[k]<;>simp[h]
def ED(a:uV):Bool:=a.check==0
theorem MF(a:uV)(h:a.ip.length=16)(w:World):Calls prog 128 #[.agg a.cells.toArray] w (uf (.bool (ED a)) w):=by
 have hcl:=a.ur h;have AC:=Y (fun W=>CO a h W);have hb:ED a=(a.check==0):=rfl;have HK:=Y hb;clear hb;generalize a.cells=L,a.check=ck at*;have HB:Below w.heap.size w (w.alloc (.cells L.toArray 24)):=gj;go_enter func128,ntmps128;go_wp2_with(refine tO (.load 24 (.tmp 1)) J ?_;go_must(refine tP J _ _ J w.heap.size 0 J (Z.new w 24 L) 18 I _ underlying24 J AZ L (wg I) ?_));exact rQ
theorem IF(n a b:Int)(w:World):Calls prog 134 #[.int .i64 n,.int .i64 a,.int .i64 b] w (yi (.int .i64 (min (max n a) b)) w):=by
 go_enter func134,ntmps134;go_wp2;all_goals(go_ret;exact yi.mk (yf I) J)
def DR{α:Type}(e:TypeId)(k:Nat)(R:World->List Value->α->Prop)(l:List α)(w:World)(x:Ending)(w':World):Prop:=∃v,x= .returned v/\uy w' w.heap.size e k (R w') v l/\al w w'
theorem WD(A:Option Addr)(c:Nat)(l:List uV)(m:Nat)(w:World)(hA:ac3 w A l)(hl:l.length<=17592186044416)(hm:m<=100):
  Calls prog 127 #[.slice A l.length c,.int .i64 m,.func (.func 128) #[] #[]] w (DR 24 18 (fun _=>Cl) (yF ED l m) w):=by
 have ao3:(uV.zero.cells).length=18:=uV.zero.ur J;obtain⟨p,hp⟩:∃p,p=ED:=gp;have MS:=Y (fun a h W=>MF a h W);rw[<-hp]at MS⊢;clear hp;go_enter func127,ntmps127;go_wp2_with fail;go_loopw[7,12] (fun kv iv wr=>∃k:Nat,k<=l.length/\iv= .int .i64 k/\y8 wr w.heap.size kv ((l.take k).filter p)/\((l.take k).filter p).length<=m/\al w wr) (fun _ iv _=>l.length-(intOf iv).toNat)
 case atStart=>exact⟨0,Nat.zero_le _,J,uy.nil _ _ _ _ _,ap,Below.refl _ _⟩
 obtain⟨k,O,rfl,ho,hle,hB⟩:=hrel;obtain⟨Ak,ck,hv⟩:=ho.form;subst hv;by_cases Hh:k<l.length
 case neg=>exact pb
 have tQ:(k:Int)<l.length:=I;obtain⟨b,off,rfl,F,hr⟩:=hA I;obtain⟨cs,hcs,hce,ty⟩:=hr k Hh;have hcs:=tX hcs hB F;have hcl:cs.length=18:=jy;have afx:∀v∈cs,v.oneCell'=true:=iY;have MK:Hid (∀W,Calls prog 128 #[.agg cs.toArray] W (uf (.bool (p l[k])) W)):=my;have HC:=Y hce;have HO:=Y ho;have HI:=Y ty;clear hce ty hr ho hA;have W1:Below wr.heap.size wr (wr.alloc (.cells uV.zero.cells.toArray 24)):=gj;by_cases ak8:((l.take k).filter p).length<m
 case neg=>
  have ahA:¬(((l.take k).filter p).length:Int)<m:=I;go_wp2_with(first
   |(refine tO (.load 24 (.tmp 14)) rfl ?_;go_must(refine vM rfl 24 (.tmp 14) rfl b (off+k*18) rfl cs hcs _ underlying24 rfl cM ?_))
   |(refine tO (.store 24 (.tmp 9) (.tmp 15)) rfl (ab rfl wr.heap.size 0 cs (Z.new wr 24 uV.zero.cells) cN cM afx ?_)))
  intro w1 B1 g1 _;have H1:=tN (tL hB hB.size W1) g1 aS hB.size;have K1:=tN W1 g1 W1.size (Nat.le_refl _);clear g1 B1 W1;go_wp2_with fail;go_ret;refine⟨_,J,?_,H1⟩;have e:((l.take k).filter p).length=m:=I;rw[Fo e];exact uy.G (R':=Cl) HO.out K1 (fun _ _ h=>h)
 have ahA:(((l.take k).filter p).length:Int)<m:=I;go_wp2_with(first
  |(refine tO (.load 24 (.tmp 14)) rfl ?_;go_must(refine vM rfl 24 (.tmp 14) rfl b (off+k*18) rfl cs hcs _ underlying24 rfl cM ?_))
  |(refine tO (.store 24 (.tmp 9) (.tmp 15)) rfl (ab rfl wr.heap.size 0 cs (Z.new wr 24 uV.zero.cells) cN cM afx ?_)))
 intro w1 B1 g1 _;have B1':=xG B1 I;have H1:=tN (tL hB hB.size W1) g1 aS hB.size;clear B1;go_wp2_with(refine tO (.load 24 (.tmp 9)) J ?_;go_must(refine tP J _ _ J wr.heap.size 0 J B1' 18 I _ underlying24 J AZ cs (wg I) ?_));refine(MK.out _).mono ?_;rintro _ w2 ⟨rfl,b2⟩;have B2:=B1'.G b2 B1'.lt;have H2:=tL H1 H1.size b2;have K2:=tL (tN W1 g1 W1.size (Nat.le_refl _)) cO b2;have O2:=uy.G (R':=Cl) HO.out K2 (fun _ _ h=>h);have FS:=Y (zv (p:=p) Hh);have hlen:((l.take k).filter p).length+1<=200:=I;clear MS MK hcs W1 g1 b2 B1' HO H1;cases hpk:p l[k]with
 |false=>exact qF
 |true=>
  rw[hpk]at FS;have K3:Below w2.heap.size w2 (w2.alloc (.cells cs.toArray 24)):=gj;have O3:=uy.G (R':=Cl) O2 K3 (fun _ _ h=>h);have N3:=O2.ne (Nat.le_refl _);clear hpk;go_wp2_with(first
   |(refine tO (.load 24 (.tmp 9)) rfl ?_;go_must(refine tP rfl _ _ rfl wr.heap.size 0 rfl B2 18 I _ underlying24 rfl AZ cs (wg I) ?_))
   |(refine tO (.buildSlice 65 1 #[(0,.tmp 24)]) rfl ?_;go_must(refine Cj rfl 65 24 _ 18 32 underlying65 yS ax ax (.tmp 24) rfl cs rfl hcl ?_))
   |(at_builtin;go_must(refine xS _ rfl _ _ 65 rfl 24 _ 18 32 underlying65 yS (by kernel_rfl) ax w.heap.size _ _ rfl O3 cP w2.heap.size cs l[k] rfl (Z.new _ _ _) N3 hcl afx ⟨HC.out,HI.out⟩ aJ I ?_)))
  intro v' w4 O4 g4;have H4:=(tL H2 H2.size K3).grown g4 cP O3.base;clear g4 K3 O3 O2 N3 B2 H2;exact ph
structure Lt where
 ds:List Int
 us:Nat
def Pj(l:List Int):List Value:=l.map (Value.int .i64)
def Lt.get(L:Lt):Int:=if h:L.us<L.ds.length then L.ds[L.us]else L.us
def wZ(L:Lt)(n:Int):Int×Lt:=(IntKind.u64.wrap L.get%n,⟨L.ds,L.us+1⟩)
def xT(w:World)(g:Nat)(L:Lt):Prop:=∃v,Z w g 180 [v,.int .i64 L.us]/\w.ownsRow 0 3 1 v L.ds.length (Pj L.ds)
theorem xT.G{L:Lt}(h:xT w g L)(F:al w w'):xT w' g L:=by
 obtain⟨v,U,X⟩:=h;exact⟨v,U.G F U.lt,vQ X F⟩
theorem xT.fr{L:Lt}(h:xT w g L)(k:Fr S w w')(hg:¬S g):xT w' g L:=by
 obtain⟨v,U,X⟩:=h;exact⟨v,k.uG U hg,k.own X cQ⟩
theorem Fp(L:Lt){n:Int}(hn:0<n):0<=(wZ L n).1/\(wZ L n).1<n:=⟨Int.emod_nonneg _ I,Int.emod_lt_of_pos _ hn⟩
theorem EE(d n:Int)(U:0<n)(X:n<=100000):wrap64 ((IntKind.u64.wrap d).tmod n)=IntKind.u64.wrap d%n:=by
 have hu0:0<=IntKind.u64.wrap d:=nF;have h3:=Int.emod_nonneg (IntKind.u64.wrap d) (show n≠0 by omega);have h4:=Int.emod_lt_of_pos (IntKind.u64.wrap d) U;rw[Int.tmod_eq_emod_of_nonneg hu0];exact IntWalk.wrap64_in _ ⟨I,I⟩
def Vo(g:Nat)(r:Int×Lt)(w:World)(e:Ending)(w':World):Prop:=e= .returned (.int .i64 r.1)/\xT w' g r.2/\w.grownBy w' (some g)
theorem Q6(g:Nat)(L:Lt)(n:Int)(w:World)(h:xT w g L)(hn:0<n)(hn2:n<=100000)(hu:L.us<=1000000000)(hd:L.ds.length<=17592186044416):
  Calls prog 224 #[.pointer (some ⟨g,0,none⟩),.int .i64 n] w (Vo g (wZ L n) w):=by
 obtain⟨v,F,ho⟩:=h;obtain⟨A,c,rfl⟩:=yg ho;have c0:=F.K 0 J;have c1:=F.K 1 J;have f1:=F.frozen 1;have hn':decide (n<1)=false:=az;have hu0:(0:Int)<=L.us:=I;have hwn:IntKind.u64.wrap n=n:=gL;have hn0:¬n=0:=I;have DV:=Y (EE L.get n hn hn2);have FIN:Hid (∀w1,al w w1->Vo g (wZ L n) w (.returned (.int .i64 (IntKind.u64.wrap L.get%n))) (w1.setCell ⟨g,1,none⟩ (.int .i64 ((L.us:Int)+1)))):=Y (fun w1 U=>by
  have e:(.int .i64 ((L.us:Int)+1))=Value.int .i64 ((L.us+1:Nat):Int):=lX;rw[e];have hg:w1.grownBy (w1.setCell ⟨g,1,none⟩ (.int .i64 ((L.us+1:Nat):Int))) (some g):=ig;refine⟨J,⟨_,(F.G U F.lt).set 1 _,?_⟩,tU (uj U _) hg (.inl J)⟩;exact Bi (vQ ho U) hg (F.G U F.lt) ax)
 by_cases Hh:L.us<L.ds.length
 case pos=>
  have e1:L.get=L.ds[L.us]:=mO;rw[e1]at DV FIN;obtain⟨b,h2,rfl,hM,hT,_⟩:=Dn ho I (by simp[Pj]);have cd:w.cell? ⟨b,L.us,none⟩=some (.int .i64 L.ds[L.us]):=hM.K _ (by
   have:(h2.take (L.ds.length*1))[L.us]?=some (.int .i64 L.ds[L.us]):=by rw[hT];simp[Pj,Hh]
   rwa[List.getElem?_take_of_lt I]at this)
  clear F ho e1 hM hT hn hn2;generalize L.ds[L.us]=d at*;go_enter func224,ntmps224;go_wp2_with fail;go_quiet(fail);go_wp2_with fail;go_quiet(fail);go_wp2_with fail;go_ret;rw[DV.out];exact tH
 case neg=>have e1:L.get=L.us:=mP;rw[e1]at DV FIN;have hwu:IntKind.u64.wrap (L.us:Int)=L.us:=gL;have DV2:Hid (wrap64 ((L.us:Int)%n)=(L.us:Int)%n):=Y cR;rw[hwu]at FIN;clear F ho e1 hn hn2 hwu DV;go_enter func224,ntmps224;go_wp2_with fail;go_quiet(fail);go_wp2_with fail;go_ret;rw[DV2.out];exact tH
def aej(ds:List Int)(w:World)(e:Ending)(w':World):Prop:=∃g,e= .returned (.pointer (some ⟨g,0,none⟩))/\xT w' g ⟨ds,0⟩/\al w w'/\w.heap.size<=g
theorem Q7(A:Option Addr)(c:Nat)(ds:List Int)(w:World)(hA:0<ds.length->∃b off,A=some ⟨b,off,none⟩/\w.rangeAt b off (Pj ds))(hl:ds.length<=17592186044415):
  Calls prog 33 #[.slice A ds.length c] w (aej ds w):=by
 go_enter func33,ntmps33;go_wp2_with(at_builtin;go_must(refine zu w J _ _ 70 J 3 (.int .i64 0) 1 8 underlying70 (by kernel_rfl) J ax w.heap.size tS 0 [] J (World.ownsRow_nil _ _ _ _) (Nat.le_refl _) A ds.length c (Pj ds) J hA (by simp[Pj]) (fun u hu=>by obtain⟨b,_,rfl⟩:=List.mem_map.1 hu;rfl) aJ I ds.length I ?_));intro A' c' w1 ho hg;have b1:al w w1:=(Below.refl _ _).grown hg (Nat.le_refl _) (by simp[tS,Value.ownBlock]);clear hg;go_wp2_with fail;go_ret;have BB:Below w1.heap.size w1 (w1.alloc (.cells #[.slice A' ds.length c',.int .i64 0] 180)):=gj;refine⟨w1.heap.size,J,⟨_,Z.new _ _ _,?_⟩,tL b1 b1.size BB,b1.size⟩;exact vQ (Cg ho) BB
end Go.Proofs.YthnbcmlnpdabhaaGreat
