/-
  What stays when the blocks of exchanges,dials and lots are written:a frame by blocks and their types.
-/
import Derived.Test.YthnbcmlnpdabhaaGreatHGq
namespace Go.Proofs.YthnbcmlnpdabhaaGreat
open _root_.Go.Proofs.Tryz
set_option maxHeartbeats 8000000
open Go.RowKit
set_option maxRecDepth 100000
set_option linter.unusedVariables false
set_option linter.unusedSimpArgs false
variable {S S':Nat->Prop} {a:Act} {b w w':World} {g B s n m:Nat} {t e:TypeId} {cs:List Value} {v:Value} {P:Program} {ops:Array Oper} {rest:List Oper} {o:Oper} {A:Option Addr}
def Sy(t:TypeId):Prop:=t=152\/t=177\/t=180\/t=86\/t=163\/t=90\/t=97\/t=185\/t=200\/t=197\/t=76\/t=999999
def StT(w:World)(i:Nat):Prop:=∃t cs,F w i t cs/\Sy t
structure Fr (S:Nat->Prop) (w w':World):Prop where
 os:w'.os=w.os
 tape:w'.tape=w.tape
 output:w'.output=w.output
 size:w.heap.size<=w'.heap.size
 block:∀i,i<w.heap.size->w'.heap[i]?=w.heap[i]?\/(S i/\StT w i)
theorem Fr.trans{a c:World}(h:Fr S a b)(k:Fr S' b c)(K:∀i,i<a.heap.size->S' i->S i):Fr S a c:=
 ⟨k.os.trans h.os,k.tape.trans h.tape,k.output.trans h.output,Nat.le_trans h.size k.size,fun i hi=>by
  rcases h.block i hi with e|e
  ·
   rcases k.block i (Nat.lt_of_lt_of_le hi h.size)with e'|⟨e',t,cs,Z,ht⟩
   ·exact .inl (e'.trans e)
   ·exact .inr ⟨K i hi e',t,cs,e.symm.trans Z,ht⟩
  ·
   exact .inr e⟩
theorem Fr.mono{a:World}(h:Fr S a b)(K:∀i,S i->S' i):Fr S' a b:=⟨h.os,h.tape,h.output,h.size,fun i hi=>(h.block i hi).imp id (fun⟨x,y⟩=>⟨K i x,y⟩)⟩
theorem Fr.G(h:al w w'):Fr S w w':=⟨h.os,h.tape,h.output,h.size,fun i hi=>.inl (h.block i hi)⟩
theorem Fr.grown(h:w.grownBy w' (some g))(Z:F w g t cs)(ht:Sy t)(hg:S g):Fr S w w':=⟨h.os,h.tape,h.output,h.size,fun i hi=>by
 by_cases e:i=g
 ·subst e;exact .inr ⟨hg,t,cs,Z,ht⟩
 ·
  exact .inl (h.block i hi (by simpa using e))⟩
theorem Fr.zq{a:World}(h:Fr S w w')(Z:Below B a w)(hB:B<=w.heap.size)(K:∀i,i<B->¬S i):Below B a w':=
 ⟨h.os.trans Z.os,h.tape.trans Z.tape,h.output.trans Z.output,Nat.le_trans Z.size h.size,fun i hi=>by
  rcases h.block i (Nat.lt_of_lt_of_le hi hB)with e|e
  ·exact e.trans (Z.block i hi)
  ·
   exact absurd e.1 (K i hi)⟩
theorem Fr.vj(h:Fr S w w')(Z:F w g t cs)(hg:¬S g):F w' g t cs:=by
 rcases h.block g Z.lt with e|e
 ·exact e.trans Z
 ·exact absurd e.1 hg
theorem Fr.UZ(h:Fr S w w')(Z:F w g t cs)(ht:¬Sy t):F w' g t cs:=by
 rcases h.block g Z.lt with e|⟨_,t',cs',hb',ht'⟩
 ·exact e.trans Z
 ·unfold F at Z hb';rw[Z]at hb';injection hb' with hb';injection hb' with _ e;exact absurd (e▸ht') ht
theorem Fr.own{xs:List Value}(h:Fr S w w')(ho:w.ownsRow B e s v n xs)(he:¬Sy e):w'.ownsRow B e s v n xs:=by
 obtain⟨h0,ho⟩:=ho;refine⟨h0,?_⟩;rcases ho with ho|⟨g,cap,cur,hv,hB,hg,r⟩
 ·exact .inl ho
 ·exact .inr ⟨g,cap,cur,hv,hB,h.UZ (g:=g) (t:=e) (cs:=cur.toList) hg he,r⟩
theorem IA(w:World)(t O:TypeId)(e:TypeId)(abx:Value)(size bytes:Nat)(ht:P.underlying t=some (.slice e))(hi:(P.info? e).map (fun i=>(i.zero,i.size,i.bytes))=some (some abx,size,bytes))(hzs:abx.cells.size=size)(hsz:0<size)
  (B:Nat) (v:Value) (n:Nat) (xs:List Value) (adU:w.ownsRow B e size v n xs) (hB:B<=w.heap.size) (A:Option Addr) (m c:Nat) (news:List Value) (hn:0<m->∃b off,A=some ⟨b,off,none⟩/\w.rangeAt b off news) (hl:news.length=m*size) (U:∀u∈news,u.oneCell'=true) (h63:n+m<=maxLen) (agF:(n+m)*bytes<=140737488355328):
  ∃v' w',(Builtin.append_ #[t,t] O #[v,.slice A m c]).run P w= .ok v' w'/\w'.ownsRow B e size v' (n+m) (xs++news)/\w.grownBy w' v.ownBlock:=by
 obtain⟨i,hi,hz,adh,hby⟩:=info_parts hi;by_cases hm:0<m
 ·
  obtain⟨b,off,rfl,hr⟩:=hn hm;obtain⟨v',w',hr,X,h3,_,h5⟩:=run_append_own_at (P:=P) w B t O e i _ size bytes ht hi hz adh hby hzs I v n xs adU ⟨b,off,none⟩ m c news hl (fun j u hu=>by
   have agU:(⟨b,off,none⟩:Addr).add j=⟨b,off+j,none⟩:=gT;rw[agU];exact hr j u hu) U h63 agF hB
  exact tz
 ·
  obtain rfl:m=0:=I;have alQ:news=[]:=ig;subst alQ;have hv:∃A' c',v= .slice A' n c'/\n<=c':=by exact qv
  obtain⟨A',c',rfl,agT⟩:=hv;refine⟨.slice A' n c',w,?_,gA,World.grownBy.refl _ _⟩;cases A with
  |none=>cases A'<;>simp[Builtin.append_,run_underlying ht,sizeOf,typeInfo,hi,adh,Builtin.lenOf,agT,Builtin.firstCells,storeCells]
  |some ad=>have hl0:(loadCells ad 0).run P w= .ok #[] w:=rfl;cases A'<;>simp[hl0,Builtin.append_,run_underlying ht,sizeOf,typeInfo,hi,adh,Builtin.lenOf,agT,Builtin.firstCells,storeCells]
theorem zS(w:World){Q:Exit->Act->World->Prop}(hgd:o.guard=none)(s x:Operand)(t:TypeId)
  (ho:o.op= .call {callee:=.builtin .append,args:= #[s,x],argTypes:= #[t,t]})
  (e:TypeId) (abx:Value) (size bytes:Nat) (ht:P.underlying t=some (.slice e)) (hi:(P.info? e).map (fun i=>(i.zero,i.size,i.bytes))=some (some abx,size,bytes)) (hzs:abx.cells.size=size) (hsz:0<size)
  (B:Nat) (v:Value) (n:Nat) (xs:List Value) (hs:a.eval s=v) (adU:w.ownsRow B e size v n xs) (hB:B<=w.heap.size) (A:Option Addr) (m c:Nat) (news:List Value) (hx:a.eval x= .slice A m c)
  (hn:0<m->∃b off,A=some ⟨b,off,none⟩/\w.rangeAt b off news) (hl:news.length=m*size) (U:∀u∈news,u.oneCell'=true) (h63:n+m<=maxLen) (agF:(n+m)*bytes<=140737488355328) (k:Nat) (z:k=n+m)
  (h:∀A' c' w',w'.ownsRow B e size (.slice A' k c') k (xs++news)->w.grownBy w' v.ownBlock->wpList P ops Q rest (a.put o.dst (.slice A' k c')) w'):
  wpList P ops Q (o::rest) a w:=by
 subst z;refine wpList_plain hgd fun hb hK=>?_
 obtain⟨v',w',hr,X,h3⟩:=IA w t o.type e abx size bytes ht hi hzs hsz B v n xs adU hB A m c news hn hl U h63 agF;exact pK
theorem AY{c:Nat}{xs:List Value}(h:w.ownsRow B e s (.slice A n c) n xs)(hn:0<n)(hl:xs.length=n*s):∃g L,A=some ⟨g,0,none⟩/\F w g e L/\L.take (n*s)=xs/\B<=g:=by
 rcases h.2 with⟨_,h0⟩|⟨g,cap,cur,hv,hB,hg,hc,hm,hs,ht⟩
 ·omega
 ·injection hv with U X h3;exact⟨g,cur.toList,U,hg,ht,hB⟩
def LIn{α:Type}(w:World)(k:Nat)(R:List Value->α->Prop)(A:Option Addr)(l:List α):Prop:=0<l.length->∃b off,A=some ⟨b,off,none⟩/\b<w.heap.size/\∀i (hi:i<l.length),∃cs,w.rangeAt b (off+i*k) cs/\R cs l[i]
theorem LIn.mono{α:Type}{k:Nat}{R R':List Value->α->Prop}{l:List α}(h:LIn w k R A l)(Z:al w w')(hm:∀cs x,R cs x->R' cs x):LIn w' k R' A l:=by
 intro hp;obtain⟨b,off,U,X,h3⟩:=h hp;refine⟨b,off,U,Nat.lt_of_lt_of_le X Z.size,fun i hi=>?_⟩;obtain⟨cs,h4,h5⟩:=h3 i hi;exact⟨cs,uD h4 Z X,hm _ _ h5⟩
theorem uY.G{α:Type}{k:Nat}{R R':List Value->α->Prop}{l:List α}(h:uY w B e k R v l)(Z:al w w')(hm:∀cs x,R cs x->R' cs x):uY w' B e k R' v l:=h.uH (fun _ x=>wC x Z) hm
theorem uY.nil{α:Type}(w:World)(B:Nat)(e:TypeId)(k:Nat)(R:List Value->α->Prop):uY w B e k R uz []:=⟨[],World.ownsRow_nil _ _ _ _,trivial⟩
theorem uY.ne{α:Type}{k:Nat}{R:List Value->α->Prop}{l:List α}(h:uY w B e k R v l)(hg:w.heap.size<=g):v.ownBlock≠some g:=by
 obtain⟨_,ho,_⟩:=h;intro e;have:=(ho.lt g e).2;omega
theorem uY.base{α:Type}{k:Nat}{R:List Value->α->Prop}{l:List α}(h:uY w B e k R v l):∀g,v.ownBlock=some g->B<=g:=by
 obtain⟨_,ho,_⟩:=h;exact xZ ho
theorem uY.vj{α:Type}{k:Nat}{R:List Value->α->Prop}{l:List α}(h:uY w B e k R v l)(hg:w.grownBy w' (some g))(Z:F w g t cs)(ht:t≠e):uY w' B e k R v l:=h.uH (fun _ x=>Cj x hg Z ht) (fun _ _ x=>x)
theorem vp(w:World)(g i:Nat)(u:Value):w.grownBy (w.setCell ⟨g,i,none⟩ u) (some g):=uS (World.grownBy.refl _ _) i u
theorem uY.zero{α:Type}{k:Nat}{R:List Value->α->Prop}{l:List α}(h:uY w B e k R v l):uY w 0 e k R v l:=by
 obtain⟨uo,U,X⟩:=h;exact⟨uo,CP U,X⟩
theorem uY.Xs{α:Type}{k:Nat}{R:List Value->α->Prop}{v v':Value}{l:List α}{uo:List (List Value)}{x:α}(h:Ci R uo l)(ho:w.ownsRow B e k v' (l.length+1) (uo.flatten++cs))(hx:R cs x):uY w B e k R v' (l++[x]):=by
 refine⟨uo++[cs],?_,h.Xs hx⟩;rw[List.length_append,List.length_singleton,List.flatten_append];simpa using ho
theorem xA{L ul:List Value}(h:F w g t (L++ul.drop n))(hM:ul.length<=n):F w g t L:=by
 exact rV
theorem PU(w:World)(t e:TypeId)(abx:Value)(n bytes:Nat)(ht:P.underlying t=some (.slice e))(hi:(P.info? e).map (fun i=>(i.zero,i.size,i.bytes))=some (some abx,n,bytes))(hn:0<n)(hn2:n<=1000)(cs:List Value)(hl:cs.length=n):(Instr.buildSlice t 1 #[(0,.agg cs.toArray)]).run P w= .ok (.slice (some ⟨w.heap.size,0,none⟩) 1 1) (w.alloc (.cells cs.toArray e)):=by
 obtain⟨i,hi,hz,adh,hby⟩:=info_parts hi;refine run_buildSlice w t e 1 _ cs.toArray i _ ht hi hz (by rw[adh];omega) (by rw[adh];omega) ?_;rw[adh];have:=Iz n ((Array.range (1*n)).map (abx.cells[· %abx.cells.size]!)).toList cs hl ap;exact sD
theorem CU{Q:Exit->Act->World->Prop}(hgd:o.guard=none)(t e:TypeId)(abx:Value)(n bytes:Nat)(ht:P.underlying t=some (.slice e))(hi:(P.info? e).map (fun i=>(i.zero,i.size,i.bytes))=some (some abx,n,bytes))(hn:0<n)(hn2:n<=1000)
  (x:Operand) (ho:o.op= .buildSlice t 1 #[(0,x)]) (cs:List Value) (hx:a.eval x= .agg cs.toArray) (hl:cs.length=n)
  (h:wpList P ops Q rest (a.put o.dst (.slice (some ⟨w.heap.size,0,none⟩) 1 1)) (w.alloc (.cells cs.toArray e))):wpList P ops Q (o::rest) a w:=by
 refine wpList_plain hgd fun hb hK=>?_
 unfold Oper.wp execOp;simp only[ho,Sem.run_bind,Sem.run_pure,Result.andThen_ok,List.map_toArray,List.map_cons,List.map_nil,hx,PU w t e abx n bytes ht hi hn hn2 cs hl];exact hK _ _ h
theorem yu(w:World){Q:Exit->Act->World->Prop}(hgd:o.guard=none)(s x:Operand)(t:TypeId)
  (ho:o.op= .call {callee:=.builtin .append,args:= #[s,x],argTypes:= #[t,t]})
  (e:TypeId) (abx:Value) (size bytes:Nat) (ht:P.underlying t=some (.slice e)) (hi:(P.info? e).map (fun i=>(i.zero,i.size,i.bytes))=some (some abx,size,bytes)) (hzs:abx.cells.size=size) (hsz:0<size)
  {α:Type} {R:List Value->α->Prop} (B:Nat) (v:Value) (l:List α) (hs:a.eval s=v) (h:uY w B e size R v l) (hB:B<=w.heap.size) (g:Nat) (cs:List Value) (r:α) (hx:a.eval x= .slice (some ⟨g,0,none⟩) 1 1) (Z:F w g e cs) (hg:v.ownBlock≠some g)
  (hl:cs.length=size) (U:∀u∈cs,u.oneCell'=true) (hr:R cs r) (h63:l.length+1<=maxLen) (agF:(l.length+1)*bytes<=140737488355328)
  (z:∀v' w',uY w' B e size R v' (l++[r])->w.grownBy w' v.ownBlock->wpList P ops Q rest (a.put o.dst v') w'):
  wpList P ops Q (o::rest) a w:=by
 obtain⟨uo,adU,hE⟩:=h;refine zS w hgd s x t ho e abx size bytes ht hi hzs hsz B v l.length uo.flatten hs adU hB (some ⟨g,0,none⟩) 1 1 cs hx (fun _=>⟨g,0,J,fun j u hu=>by rw[Nat.zero_add];exact Z.M j hu⟩) I U h63 agF _ J ?_;intro A' c' w' ho' hg';exact z _ w' (uY.Xs (v:=v) hE ho' hr) hg'
theorem uY.one{α:Type}{R:List Value->α->Prop}(k:Nat){x:α}(Z:F w g e cs)(hl:cs.length=k)(hr:R cs x):uY w 0 e k R (.slice (some ⟨g,0,none⟩) 1 1) [x]:=by
 refine⟨[cs],⟨by simp[hl],.inr ⟨g,1,cs.toArray,J,Nat.zero_le _,Z,Nat.le_refl _,by simp[maxLen],by simp[hl],?_⟩⟩,hr,trivial⟩;exact qD
theorem CX{Q:Exit->Act->World->Prop}(hgd:o.guard=none)(t e:TypeId)(abx:Value)(n bytes:Nat)(ht:P.underlying t=some (.slice e))(hi:(P.info? e).map (fun i=>(i.zero,i.size,i.bytes))=some (some abx,n,bytes))(hn:0<n)(hn2:n<=1000)
  (x:Operand) (ho:o.op= .buildSlice t 1 #[(0,x)]) (cs:List Value) (hx:a.eval x= .agg cs.toArray) (hl:cs.length=n)
  (h:∀w',F w' w.heap.size e cs->al w w'->wpList P ops Q rest (a.put o.dst (.slice (some ⟨w.heap.size,0,none⟩) 1 1)) w'):wpList P ops Q (o::rest) a w:=
 CU hgd t e abx n bytes ht hi hn hn2 x ho cs hx hl (h _ (F.new w e cs) ((Below.refl _ _).alloc (Nat.le_refl _) _))
theorem Cf:(prog.info? 24).map (·.size)=some 18:=by kernel_rfl
theorem zr:(prog.info? 24).map (fun i=>(i.zero,i.size,i.bytes))=some (some (.agg vG.zero.cells.toArray),18,32):=by kernel_rfl
def CY(cs:List Value)(a:vG):Prop:=cs=a.cells/\a.ip.length=16
theorem CY.len{a:vG}(h:CY cs a):cs.length=18:=by rw[h.1];exact a.uT h.2
abbrev zE(w:World)(B:Nat)(v:Value)(l:List vG):Prop:=uY w B 24 18 CY v l
abbrev adY(w:World)(A:Option Addr)(l:List vG):Prop:=LIn w 18 CY A l
def y6{α:Type}(p:α->Bool)(l:List α)(m:Nat):List α:=(l.filter p).take m
theorem Gl{α:Type}{p:α->Bool}{l:List α}{k:Nat}(h:((l.take k).filter p).length=m):y6 p l m=(l.take k).filter p:=by
 unfold y6;have e:l.filter p=(l.take k).filter p++(l.drop k).filter p:=by rw[<-List.filter_append,List.take_append_drop]
 rw[e,List.take_append_of_le_length I,List.take_of_length_le I]
theorem Sz{α:Type}{p:α->Bool}{l:List α}(h:(l.filter p).length<=m):y6 p l m=l.filter p:=List.take_of_length_le h
theorem zT{α:Type}{p:α->Bool}{l:List α}{k:Nat}(z:k<l.length):(l.take (k+1)).filter p=(l.take k).filter p++(if p l[k]then[l[k]]else[]):=by
 rw[List.take_succ_eq_append_getElem z,List.filter_append];cases h:p l[k]<;>simp[h]
def Fp(a:vG):Bool:=a.check==0
theorem Nu(a:vG)(h:a.ip.length=16)(w:World):Calls prog 128 #[.agg a.cells.toArray] w (uI (.bool (Fp a)) w):=by
 have hcl:=a.uT h;have AC:=Y (fun W=>Dv a h W);have hb:Fp a=(a.check==0):=rfl;have HK:=Y hb;clear hb;generalize a.cells=L,a.check=ck at*;have HB:Below w.heap.size w (w.alloc (.cells L.toArray 24)):=gF;go_enter func128,ntmps128;go_wp2_with(refine ur (.load 24 (.tmp 1)) J ?_;go_must(refine uu J _ _ J w.heap.size 0 J (F.new w 24 L) 18 I _ underlying24 J Cf L (wP I) ?_));exact sE
theorem Ji(n a b:Int)(w:World):Calls prog 134 #[.int .i64 n,.int .i64 a,.int .i64 b] w (xX (.int .i64 (min (max n a) b)) w):=by
 go_enter func134,ntmps134;go_wp2;all_goals(go_ret;exact xX.mk (yE I) J)
def Ew{α:Type}(e:TypeId)(k:Nat)(R:World->List Value->α->Prop)(l:List α)(w:World)(x:Ending)(w':World):Prop:=∃v,x= .returned v/\uY w' w.heap.size e k (R w') v l/\al w w'
theorem XI(A:Option Addr)(c:Nat)(l:List vG)(m:Nat)(w:World)(hA:adY w A l)(hl:l.length<=17592186044416)(hm:m<=100):
  Calls prog 127 #[.slice A l.length c,.int .i64 m,.func (.func 128) #[] #[]] w (Ew 24 18 (fun _=>CY) (y6 Fp l m) w):=by
 have apV:(vG.zero.cells).length=18:=vG.zero.uT J;obtain⟨p,hp⟩:∃p,p=Fp:=gG;have MS:=Y (fun a h W=>Nu a h W);rw[<-hp]at MS⊢;clear hp;go_enter func127,ntmps127;go_wp2_with fail;go_loopw[7,12] (fun kv iv wr=>∃k:Nat,k<=l.length/\iv= .int .i64 k/\zE wr w.heap.size kv ((l.take k).filter p)/\((l.take k).filter p).length<=m/\al w wr) (fun _ iv _=>l.length-(intOf iv).toNat)
 case atStart=>exact⟨0,Nat.zero_le _,J,uY.nil _ _ _ _ _,ap,Below.refl _ _⟩
 obtain⟨k,z,rfl,ho,hle,hB⟩:=hrel;obtain⟨Ak,ck,hv⟩:=ho.form;subst hv;by_cases aB:k<l.length
 case neg=>exact pF
 have h1:(k:Int)<l.length:=I;obtain⟨b,off,rfl,Z,hr⟩:=hA I;obtain⟨cs,hS,hce,h2⟩:=hr k aB;have hS:=uD hS hB Z;have hcl:cs.length=18:=jI;have agj:∀v∈cs,v.oneCell'=true:=jh;have MK:Hid (∀W,Calls prog 128 #[.agg cs.toArray] W (uI (.bool (p l[k])) W)):=mO;have HC:=Y hce;have HO:=Y ho;have HI:=Y h2;clear hce h2 hr ho hA;have W1:Below wr.heap.size wr (wr.alloc (.cells vG.zero.cells.toArray 24)):=gF;by_cases al3:((l.take k).filter p).length<m
 case neg=>
  have air:¬(((l.take k).filter p).length:Int)<m:=I;go_wp2_with(first
   |(refine ur (.load 24 (.tmp 14)) rfl ?_;go_must(refine wj rfl 24 (.tmp 14) rfl b (off+k*18) rfl cs hS _ underlying24 rfl cM ?_))
   |(refine ur (.store 24 (.tmp 9) (.tmp 15)) rfl (ab rfl wr.heap.size 0 cs (F.new wr 24 vG.zero.cells) cN cM agj ?_)))
  intro w1 B1 g1 _;have H1:=uq (um hB hB.size W1) g1 aT hB.size;have K1:=uq W1 g1 W1.size (Nat.le_refl _);clear g1 B1 W1;go_wp2_with fail;go_ret;refine⟨_,J,?_,H1⟩;have e:((l.take k).filter p).length=m:=I;rw[Gl e];exact uY.G (R':=CY) HO.out K1 (fun _ _ h=>h)
 have air:(((l.take k).filter p).length:Int)<m:=I;go_wp2_with(first
  |(refine ur (.load 24 (.tmp 14)) rfl ?_;go_must(refine wj rfl 24 (.tmp 14) rfl b (off+k*18) rfl cs hS _ underlying24 rfl cM ?_))
  |(refine ur (.store 24 (.tmp 9) (.tmp 15)) rfl (ab rfl wr.heap.size 0 cs (F.new wr 24 vG.zero.cells) cN cM agj ?_)))
 intro w1 B1 g1 _;have B1':=xA B1 I;have H1:=uq (um hB hB.size W1) g1 aT hB.size;clear B1;go_wp2_with(refine ur (.load 24 (.tmp 9)) J ?_;go_must(refine uu J _ _ J wr.heap.size 0 J B1' 18 I _ underlying24 J Cf cs (wP I) ?_));refine(MK.out _).mono ?_;rintro _ w2 ⟨rfl,b2⟩;have B2:=B1'.G b2 B1'.lt;have H2:=um H1 H1.size b2;have K2:=um (uq W1 g1 W1.size (Nat.le_refl _)) cO b2;have O2:=uY.G (R':=CY) HO.out K2 (fun _ _ h=>h);have FS:=Y (zT (p:=p) aB);have hlen:((l.take k).filter p).length+1<=200:=I;clear MS MK hS W1 g1 b2 B1' HO H1;cases hpk:p l[k]with
 |false=>exact ri
 |true=>
  rw[hpk]at FS;have K3:Below w2.heap.size w2 (w2.alloc (.cells cs.toArray 24)):=gF;have O3:=uY.G (R':=CY) O2 K3 (fun _ _ h=>h);have N3:=O2.ne (Nat.le_refl _);clear hpk;go_wp2_with(first
   |(refine ur (.load 24 (.tmp 9)) rfl ?_;go_must(refine uu rfl _ _ rfl wr.heap.size 0 rfl B2 18 I _ underlying24 rfl Cf cs (wP I) ?_))
   |(refine ur (.buildSlice 65 1 #[(0,.tmp 24)]) rfl ?_;go_must(refine CU rfl 65 24 _ 18 32 underlying65 zr az az (.tmp 24) rfl cs rfl hcl ?_))
   |(at_builtin;go_must(refine yu _ rfl _ _ 65 rfl 24 _ 18 32 underlying65 zr (by kernel_rfl) az w.heap.size _ _ rfl O3 cP w2.heap.size cs l[k] rfl (F.new _ _ _) N3 hcl agj ⟨HC.out,HI.out⟩ aK I ?_)))
  intro v' w4 O4 g4;have H4:=(um H2 H2.size K3).grown g4 cP O3.base;clear g4 K3 O3 O2 N3 B2 H2;exact pL
structure Lt where
 ds:List Int
 us:Nat
def PV(l:List Int):List Value:=l.map (Value.int .i64)
def Lt.get(L:Lt):Int:=if h:L.us<L.ds.length then L.ds[L.us]else L.us
def xG(L:Lt)(n:Int):Int×Lt:=(IntKind.u64.wrap L.get%n,⟨L.ds,L.us+1⟩)
def yn(w:World)(g:Nat)(L:Lt):Prop:=∃v,F w g 180 [v,.int .i64 L.us]/\w.ownsRow 0 3 1 v L.ds.length (PV L.ds)
theorem yn.G{L:Lt}(h:yn w g L)(Z:al w w'):yn w' g L:=by
 obtain⟨v,U,X⟩:=h;exact⟨v,U.G Z U.lt,wC X Z⟩
theorem yn.fr{L:Lt}(h:yn w g L)(k:Fr S w w')(hg:¬S g):yn w' g L:=by
 obtain⟨v,U,X⟩:=h;exact⟨v,k.vj U hg,k.own X cQ⟩
theorem Gm(L:Lt){n:Int}(hn:0<n):0<=(xG L n).1/\(xG L n).1<n:=⟨Int.emod_nonneg _ I,Int.emod_lt_of_pos _ hn⟩
theorem Fq(d n:Int)(U:0<n)(X:n<=100000):wrap64 ((IntKind.u64.wrap d).tmod n)=IntKind.u64.wrap d%n:=by
 have hu0:0<=IntKind.u64.wrap d:=n6;have h3:=Int.emod_nonneg (IntKind.u64.wrap d) (show n≠0 by omega);have h4:=Int.emod_lt_of_pos (IntKind.u64.wrap d) U;rw[Int.tmod_eq_emod_of_nonneg hu0];exact IntWalk.wrap64_in _ ⟨I,I⟩
def Wl(g:Nat)(r:Int×Lt)(w:World)(e:Ending)(w':World):Prop:=e= .returned (.int .i64 r.1)/\yn w' g r.2/\w.grownBy w' (some g)
theorem SB(g:Nat)(L:Lt)(n:Int)(w:World)(h:yn w g L)(hn:0<n)(hn2:n<=100000)(hu:L.us<=1000000000)(hd:L.ds.length<=17592186044416):
  Calls prog 224 #[.pointer (some ⟨g,0,none⟩),.int .i64 n] w (Wl g (xG L n) w):=by
 obtain⟨v,Z,ho⟩:=h;obtain⟨A,c,rfl⟩:=ya ho;have c0:=Z.M 0 J;have c1:=Z.M 1 J;have f1:=Z.frozen 1;have hn':decide (n<1)=false:=aA;have hu0:(0:Int)<=L.us:=I;have hwn:IntKind.u64.wrap n=n:=gV;have hn0:¬n=0:=I;have DV:=Y (Fq L.get n hn hn2);have FIN:Hid (∀w1,al w w1->Wl g (xG L n) w (.returned (.int .i64 (IntKind.u64.wrap L.get%n))) (w1.setCell ⟨g,1,none⟩ (.int .i64 ((L.us:Int)+1)))):=Y (fun w1 U=>by
  have e:(.int .i64 ((L.us:Int)+1))=Value.int .i64 ((L.us+1:Nat):Int):=mo;rw[e];have hg:w1.grownBy (w1.setCell ⟨g,1,none⟩ (.int .i64 ((L.us+1:Nat):Int))) (some g):=ix;refine⟨J,⟨_,(Z.G U Z.lt).set 1 _,?_⟩,uC (uM U _) hg (.inl J)⟩;exact Cj (wC ho U) hg (Z.G U Z.lt) az)
 by_cases aB:L.us<L.ds.length
 case pos=>
  have e1:L.get=L.ds[L.us]:=m6;rw[e1]at DV FIN;obtain⟨b,ul,rfl,hM,hT,_⟩:=AY ho I cR;have cd:w.cell? ⟨b,L.us,none⟩=some (.int .i64 L.ds[L.us]):=hM.M _ (by
   have:(ul.take (L.ds.length*1))[L.us]?=some (.int .i64 L.ds[L.us]):=by rw[hT];simp[PV,aB]
   rwa[List.getElem?_take_of_lt I]at this)
  clear Z ho e1 hM hT hn hn2;generalize L.ds[L.us]=d at*;go_enter func224,ntmps224;go_wp2_with fail;go_quiet(fail);go_wp2_with fail;go_quiet(fail);go_wp2_with fail;go_ret;rw[DV.out];exact ui
 case neg=>have e1:L.get=L.us:=m8;rw[e1]at DV FIN;have hwu:IntKind.u64.wrap (L.us:Int)=L.us:=gV;have DV2:Hid (wrap64 ((L.us:Int)%n)=(L.us:Int)%n):=Y cT;rw[hwu]at FIN;clear Z ho e1 hn hn2 hwu DV;go_enter func224,ntmps224;go_wp2_with fail;go_quiet(fail);go_wp2_with fail;go_ret;rw[DV2.out];exact ui
def ae6(ds:List Int)(w:World)(e:Ending)(w':World):Prop:=∃g,e= .returned (.pointer (some ⟨g,0,none⟩))/\yn w' g ⟨ds,0⟩/\al w w'/\w.heap.size<=g
theorem Mk(A:Option Addr)(c:Nat)(ds:List Int)(w:World)(hA:0<ds.length->∃b off,A=some ⟨b,off,none⟩/\w.rangeAt b off (PV ds))(hl:ds.length<=17592186044415):
  Calls prog 33 #[.slice A ds.length c] w (ae6 ds w):=by
 go_enter func33,ntmps33;go_wp2_with(at_builtin;go_must(refine zS w J _ _ 70 J 3 (.int .i64 0) 1 8 underlying70 (by kernel_rfl) J az w.heap.size uz 0 [] J (World.ownsRow_nil _ _ _ _) (Nat.le_refl _) A ds.length c (PV ds) J hA cR (fun u hu=>by obtain⟨b,_,rfl⟩:=List.mem_map.1 hu;rfl) aK I ds.length I ?_));intro A' c' w1 ho hg;have b1:al w w1:=(Below.refl _ _).grown hg (Nat.le_refl _) (by simp[uz,Value.ownBlock]);clear hg;go_wp2_with fail;go_ret;have BB:Below w1.heap.size w1 (w1.alloc (.cells #[.slice A' ds.length c',.int .i64 0] 180)):=gF;refine⟨w1.heap.size,J,⟨_,F.new _ _ _,?_⟩,um b1 b1.size BB,b1.size⟩;exact wC (CP ho) BB
end Go.Proofs.YthnbcmlnpdabhaaGreat
