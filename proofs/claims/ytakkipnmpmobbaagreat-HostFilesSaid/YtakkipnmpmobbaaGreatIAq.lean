/-
  What stays when the blocks of exchanges,dials and lots are written:a frame by blocks and their types.
-/
import Derived.Test.YtakkipnmpmobbaaGreatHGq
namespace Go.Proofs.YtakkipnmpmobbaaGreat
open _root_.Go.Proofs.Tryz
set_option maxHeartbeats 8000000
open Go.RowKit
set_option maxRecDepth 100000
set_option linter.unusedVariables false
set_option linter.unusedSimpArgs false
variable {S S':Nat->Prop} {a:Act} {b w w':World} {c g Hh s n m:Nat} {t e:TypeId} {cs:List Value} {v:Value} {P:Program} {ops:Array Oper} {rest:List Oper} {o:Oper} {A:Option Addr}
def KH(t:TypeId):Prop:=t=243\/t=173\/t=99\/t=999999\/t=999999\/t=999999\/t=106\/t=999999\/t=186\/t=136\/t=137\/t=91
def StT(w:World)(i:Nat):Prop:=∃t cs,N w i t cs/\KH t
structure Fr (S:Nat->Prop) (w w':World):Prop where
 os:w'.os=w.os
 tape:w'.tape=w.tape
 output:w'.output=w.output
 size:w.heap.size<=w'.heap.size
 block:∀i,i<w.heap.size->w'.heap[i]?=w.heap[i]?\/(S i/\StT w i)
theorem Fr.refl(S:Nat->Prop)(w:World):Fr S w w:=⟨I,I,I,Nat.le_refl _,fun _ _=>.inl I⟩
theorem Fr.trans{a c:World}(h:Fr S a b)(k:Fr S' b c)(hS:∀i,i<a.heap.size->S' i->S i):Fr S a c:=
 ⟨k.os.trans h.os,k.tape.trans h.tape,k.output.trans h.output,Nat.le_trans h.size k.size,fun i hi=>by
  rcases h.block i hi with e|e
  ·
   rcases k.block i (Nat.lt_of_lt_of_le hi h.size)with e'|⟨e',t,cs,Z,ht⟩
   ·exact .inl (e'.trans e)
   ·exact .inr ⟨hS i hi e',t,cs,e.symm.trans Z,ht⟩
  ·
   exact .inr e⟩
theorem Fr.mono{a:World}(h:Fr S a b)(hS:∀i,S i->S' i):Fr S' a b:=⟨h.os,h.tape,h.output,h.size,fun i hi=>(h.block i hi).imp id (fun⟨x,y⟩=>⟨hS i x,y⟩)⟩
theorem Fr.G(h:ao w w'):Fr S w w':=⟨h.os,h.tape,h.output,h.size,fun i hi=>.inl (h.block i hi)⟩
theorem Fr.grown(h:w.grownBy w' (some g))(Z:N w g t cs)(ht:KH t)(hg:S g):Fr S w w':=⟨h.os,h.tape,h.output,h.size,fun i hi=>by
 by_cases e:i=g
 ·subst e;exact .inr ⟨hg,t,cs,Z,ht⟩
 ·
  exact .inl (h.block i hi (by simpa using e))⟩
theorem Fr.acv{a:World}(h:Fr S w w')(Z:Below Hh a w)(hB:Hh<=w.heap.size)(hS:∀i,i<Hh->¬S i):Below Hh a w':=
 ⟨h.os.trans Z.os,h.tape.trans Z.tape,h.output.trans Z.output,Nat.le_trans Z.size h.size,fun i hi=>by
  rcases h.block i (Nat.lt_of_lt_of_le hi hB)with e|e
  ·exact e.trans (Z.block i hi)
  ·
   exact absurd e.1 (hS i hi)⟩
theorem Fr.sD(h:Fr S w w')(Z:N w g t cs)(hg:¬S g):N w' g t cs:=by
 rcases h.block g Z.lt with e|e
 ·exact e.trans Z
 ·exact absurd e.1 hg
theorem Fr.Ht(h:Fr S w w')(Z:N w g t cs)(ht:¬KH t):N w' g t cs:=by
 rcases h.block g Z.lt with e|⟨_,t',cs',hb',ht'⟩
 ·exact e.trans Z
 ·unfold N at Z hb';rw[Z]at hb';injection hb' with hb';injection hb' with _ e;exact absurd (e▸ht') ht
theorem Fr.own{xs:List Value}(h:Fr S w w')(ho:w.ownsRow Hh e s v n xs)(he:¬KH e):w'.ownsRow Hh e s v n xs:=by
 obtain⟨h0,ho⟩:=ho;refine⟨h0,?_⟩;rcases ho with ho|⟨g,cap,cur,hv,hB,hg,r⟩
 ·exact .inl ho
 ·exact .inr ⟨g,cap,cur,hv,hB,h.Ht (g:=g) (t:=e) (cs:=cur.toList) hg he,r⟩
theorem Jk(w:World)(t Q:TypeId)(e:TypeId)(z:Value)(size bytes:Nat)(ht:P.underlying t=some (.slice e))(hi:(P.info? e).map (fun i=>(i.zero,i.size,i.bytes))=some (some z,size,bytes))(hzs:z.cells.size=size)(hsz:0<size)
  (Hh:Nat) (v:Value) (n:Nat) (xs:List Value) (ad1:w.ownsRow Hh e size v n xs) (hB:Hh<=w.heap.size) (A:Option Addr) (m c:Nat) (news:List Value) (hn:0<m->∃b off,A=some ⟨b,off,none⟩/\w.rangeAt b off news) (E:news.length=m*size) (U:∀u∈news,u.oneCell'=true) (h63:n+m<=maxLen) (agH:(n+m)*bytes<=140737488355328):
  ∃v' w',(Builtin.append_ #[t,t] Q #[v,.slice A m c]).run P w= .ok v' w'/\w'.ownsRow Hh e size v' (n+m) (xs++news)/\w.grownBy w' v.ownBlock:=by
 obtain⟨i,hi,hz,adR,hby⟩:=info_parts hi;by_cases hm:0<m
 ·
  obtain⟨b,off,rfl,hr⟩:=hn hm;obtain⟨v',w',hr,F,h3,_,h5⟩:=run_append_own_at (P:=P) w Hh t Q e i _ size bytes ht hi hz adR hby hzs Y v n xs ad1 ⟨b,off,none⟩ m c news E (fun j u hu=>by
   have ahN:(⟨b,off,none⟩:Addr).add j=⟨b,off+j,none⟩:=gG;rw[ahN];exact hr j u hu) U h63 agH hB
  exact qx
 ·
  obtain rfl:m=0:=Y;have ant:news=[]:=gE;subst ant;have hv:∃A' c',v= .slice A' n c'/\n<=c':=by exact nW
  obtain⟨A',c',rfl,aii⟩:=hv;refine⟨.slice A' n c',w,?_,fS,World.grownBy.refl _ _⟩;cases A with
  |none=>cases A'<;>simp[Builtin.append_,run_underlying ht,sizeOf,typeInfo,hi,adR,Builtin.lenOf,aii,Builtin.firstCells,storeCells]
  |some ad=>have hl0:(loadCells ad 0).run P w= .ok #[] w:=rfl;cases A'<;>simp[hl0,Builtin.append_,run_underlying ht,sizeOf,typeInfo,hi,adR,Builtin.lenOf,aii,Builtin.firstCells,storeCells]
theorem uR(w:World){hb:Exit->Act->World->Prop}(hgd:o.guard=none)(s x:Operand)(t:TypeId)
  (ho:o.op= .call {callee:=.builtin .append,args:= #[s,x],argTypes:= #[t,t]})
  (e:TypeId) (z:Value) (size bytes:Nat) (ht:P.underlying t=some (.slice e)) (hi:(P.info? e).map (fun i=>(i.zero,i.size,i.bytes))=some (some z,size,bytes)) (hzs:z.cells.size=size) (hsz:0<size)
  (Hh:Nat) (v:Value) (n:Nat) (xs:List Value) (hs:a.eval s=v) (ad1:w.ownsRow Hh e size v n xs) (hB:Hh<=w.heap.size) (A:Option Addr) (m c:Nat) (news:List Value) (hx:a.eval x= .slice A m c)
  (hn:0<m->∃b off,A=some ⟨b,off,none⟩/\w.rangeAt b off news) (E:news.length=m*size) (U:∀u∈news,u.oneCell'=true) (h63:n+m<=maxLen) (agH:(n+m)*bytes<=140737488355328) (k:Nat) (O:k=n+m)
  (h:∀A' c' w',w'.ownsRow Hh e size (.slice A' k c') k (xs++news)->w.grownBy w' v.ownBlock->wpList P ops hb rest (a.put o.dst (.slice A' k c')) w'):
  wpList P ops hb (o::rest) a w:=by
 subst O;refine wpList_plain hgd fun al hK=>?_
 obtain⟨v',w',hr,F,h3⟩:=Jk w t o.type e z size bytes ht hi hzs hsz Hh v n xs ad1 hB A m c news hn E U h63 agH;exact m6
theorem wU{xs:List Value}(h:w.ownsRow Hh e s (.slice A n c) n xs)(hn:0<n)(E:xs.length=n*s):∃g L,A=some ⟨g,0,none⟩/\N w g e L/\L.take (n*s)=xs/\Hh<=g:=by
 rcases h.2 with⟨_,h0⟩|⟨g,cap,cur,hv,hB,hg,hc,hm,hs,ht⟩
 ·omega
 ·injection hv with U F h3;exact⟨g,cur.toList,U,hg,ht,hB⟩
def wH{α:Type}(w:World)(k:Nat)(R:List Value->α->Prop)(A:Option Addr)(l:List α):Prop:=0<l.length->∃b off,A=some ⟨b,off,none⟩/\b<w.heap.size/\∀i (hi:i<l.length),∃cs,w.rangeAt b (off+i*k) cs/\R cs l[i]
theorem wH.mono{α:Type}{k:Nat}{R R':List Value->α->Prop}{l:List α}(h:wH w k R A l)(Z:ao w w')(hm:∀cs x,R cs x->R' cs x):wH w' k R' A l:=by
 intro hp;obtain⟨b,off,U,F,h3⟩:=h hp;refine⟨b,off,U,Nat.lt_of_lt_of_le F Z.size,fun i hi=>?_⟩;obtain⟨cs,h4,h5⟩:=h3 i hi;exact⟨cs,rN h4 Z F,hm _ _ h5⟩
theorem rJ.Ma{α:Type}{k:Nat}{R:List Value->α->Prop}{l:List α}(O:∀cs x,R cs x->cs.length=k)(h:rJ w Hh e k R (.slice A l.length c) l):wH w k R A l:=by
 intro hp;obtain⟨g,U,F,h3⟩:=h.rU O hp;exact⟨g,0,U,F,h3⟩
theorem rJ.G{α:Type}{k:Nat}{R R':List Value->α->Prop}{l:List α}(h:rJ w Hh e k R v l)(Z:ao w w')(hm:∀cs x,R cs x->R' cs x):rJ w' Hh e k R' v l:=h.rM (fun _ x=>sT x Z) hm
theorem rJ.nil{α:Type}(w:World)(Hh:Nat)(e:TypeId)(k:Nat)(R:List Value->α->Prop):rJ w Hh e k R rI []:=⟨[],World.ownsRow_nil _ _ _ _,trivial⟩
theorem rJ.ne{α:Type}{k:Nat}{R:List Value->α->Prop}{l:List α}(h:rJ w Hh e k R v l)(hg:w.heap.size<=g):v.ownBlock≠some g:=by
 obtain⟨_,ho,_⟩:=h;intro e;have:=(ho.lt g e).2;omega
theorem rJ.base{α:Type}{k:Nat}{R:List Value->α->Prop}{l:List α}(h:rJ w Hh e k R v l):∀g,v.ownBlock=some g->Hh<=g:=by
 obtain⟨_,ho,_⟩:=h;exact yw ho
theorem rJ.sD{α:Type}{k:Nat}{R:List Value->α->Prop}{l:List α}(h:rJ w Hh e k R v l)(hg:w.grownBy w' (some g))(Z:N w g t cs)(ht:t≠e):rJ w' Hh e k R v l:=h.rM (fun _ x=>tY x hg Z ht) (fun _ _ x=>x)
theorem sU(w:World)(g i:Nat)(u:Value):w.grownBy (w.setCell ⟨g,i,none⟩ u) (some g):=sd (World.grownBy.refl _ _) i u
theorem rJ.zero{α:Type}{k:Nat}{R:List Value->α->Prop}{l:List α}(h:rJ w Hh e k R v l):rJ w 0 e k R v l:=by
 obtain⟨css,U,F⟩:=h;exact⟨css,xi U,F⟩
theorem rJ.TU{α:Type}{k:Nat}{R:List Value->α->Prop}{v v':Value}{l:List α}{css:List (List Value)}{x:α}(h:wO R css l)(ho:w.ownsRow Hh e k v' (l.length+1) (css.flatten++cs))(hx:R cs x):rJ w Hh e k R v' (l++[x]):=by
 refine⟨css++[cs],?_,h.TU hx⟩;rw[List.length_append,List.length_singleton,List.flatten_append];simpa using ho
theorem tH{L M:List Value}(h:N w g t (L++M.drop n))(hM:M.length<=n):N w g t L:=by
 exact pN
theorem EL(w:World)(t e:TypeId)(z:Value)(n bytes:Nat)(ht:P.underlying t=some (.slice e))(hi:(P.info? e).map (fun i=>(i.zero,i.size,i.bytes))=some (some z,n,bytes))(hn:0<n)(hn2:n<=1000)(cs:List Value)(E:cs.length=n):(Instr.buildSlice t 1 #[(0,.agg cs.toArray)]).run P w= .ok (.slice (some ⟨w.heap.size,0,none⟩) 1 1) (w.alloc (.cells cs.toArray e)):=by
 obtain⟨i,hi,hz,adR,hby⟩:=info_parts hi;refine run_buildSlice w t e 1 _ cs.toArray i _ ht hi hz (by rw[adR];omega) (by rw[adR];omega) ?_;rw[adR];have:=EK n ((Array.range (1*n)).map (z.cells[· %z.cells.size]!)).toList cs E ar;exact pz
theorem uT{hb:Exit->Act->World->Prop}(hgd:o.guard=none)(t e:TypeId)(z:Value)(n bytes:Nat)(ht:P.underlying t=some (.slice e))(hi:(P.info? e).map (fun i=>(i.zero,i.size,i.bytes))=some (some z,n,bytes))(hn:0<n)(hn2:n<=1000)
  (x:Operand) (ho:o.op= .buildSlice t 1 #[(0,x)]) (cs:List Value) (hx:a.eval x= .agg cs.toArray) (E:cs.length=n)
  (h:wpList P ops hb rest (a.put o.dst (.slice (some ⟨w.heap.size,0,none⟩) 1 1)) (w.alloc (.cells cs.toArray e))):wpList P ops hb (o::rest) a w:=by
 refine wpList_plain hgd fun al hK=>?_
 unfold Oper.wp execOp;simp only[ho,Sem.run_bind,Sem.run_pure,Result.andThen_ok,List.map_toArray,List.map_cons,List.map_nil,hx,EL w t e z n bytes ht hi hn hn2 cs E];exact hK _ _ h
theorem sJ(w:World){hb:Exit->Act->World->Prop}(hgd:o.guard=none)(s x:Operand)(t:TypeId)
  (ho:o.op= .call {callee:=.builtin .append,args:= #[s,x],argTypes:= #[t,t]})
  (e:TypeId) (z:Value) (size bytes:Nat) (ht:P.underlying t=some (.slice e)) (hi:(P.info? e).map (fun i=>(i.zero,i.size,i.bytes))=some (some z,size,bytes)) (hzs:z.cells.size=size) (hsz:0<size)
  {α:Type} {R:List Value->α->Prop} (Hh:Nat) (v:Value) (l:List α) (hs:a.eval s=v) (h:rJ w Hh e size R v l) (hB:Hh<=w.heap.size) (g:Nat) (cs:List Value) (r:α) (hx:a.eval x= .slice (some ⟨g,0,none⟩) 1 1) (Z:N w g e cs) (hg:v.ownBlock≠some g)
  (E:cs.length=size) (U:∀u∈cs,u.oneCell'=true) (hr:R cs r) (h63:l.length+1<=maxLen) (agH:(l.length+1)*bytes<=140737488355328)
  (O:∀v' w',rJ w' Hh e size R v' (l++[r])->w.grownBy w' v.ownBlock->wpList P ops hb rest (a.put o.dst v') w'):
  wpList P ops hb (o::rest) a w:=by
 obtain⟨css,ad1,hE⟩:=h;refine uR w hgd s x t ho e z size bytes ht hi hzs hsz Hh v l.length css.flatten hs ad1 hB (some ⟨g,0,none⟩) 1 1 cs hx (fun _=>⟨g,0,I,fun j u hu=>by rw[Nat.zero_add];exact Z.rD j hu⟩) Y U h63 agH _ I ?_;intro A' c' w' ho' hg';exact O _ w' (rJ.TU (v:=v) hE ho' hr) hg'
theorem rJ.one{α:Type}{R:List Value->α->Prop}(k:Nat){x:α}(Z:N w g e cs)(E:cs.length=k)(hr:R cs x):rJ w 0 e k R (.slice (some ⟨g,0,none⟩) 1 1) [x]:=by
 refine⟨[cs],⟨by simp[E],.inr ⟨g,1,cs.toArray,I,Nat.zero_le _,Z,Nat.le_refl _,by simp[maxLen],by simp[E],?_⟩⟩,hr,trivial⟩;exact pf
theorem vQ{hb:Exit->Act->World->Prop}(hgd:o.guard=none)(t e:TypeId)(z:Value)(n bytes:Nat)(ht:P.underlying t=some (.slice e))(hi:(P.info? e).map (fun i=>(i.zero,i.size,i.bytes))=some (some z,n,bytes))(hn:0<n)(hn2:n<=1000)
  (x:Operand) (ho:o.op= .buildSlice t 1 #[(0,x)]) (cs:List Value) (hx:a.eval x= .agg cs.toArray) (E:cs.length=n)
  (h:∀w',N w' w.heap.size e cs->ao w w'->wpList P ops hb rest (a.put o.dst (.slice (some ⟨w.heap.size,0,none⟩) 1 1)) w'):wpList P ops hb (o::rest) a w:=
 uT hgd t e z n bytes ht hi hn hn2 x ho cs hx E (h _ (N.new w e cs) ((Below.refl _ _).alloc (Nat.le_refl _) _))
theorem uq:(prog.info? 67).map (·.size)=some 18:=by kernel_rfl
theorem vg:(prog.info? 67).map (fun i=>(i.zero,i.size,i.bytes))=some (some (.agg sg.zero.cells.toArray),18,32):=by kernel_rfl
def xH(cs:List Value)(a:sg):Prop:=cs=a.cells/\a.ip.length=16
theorem xH.len{a:sg}(h:xH cs a):cs.length=18:=by rw[h.1];exact a.rY h.2
abbrev uG(w:World)(Hh:Nat)(v:Value)(l:List sg):Prop:=rJ w Hh 67 18 xH v l
abbrev Ua(w:World)(A:Option Addr)(l:List sg):Prop:=wH w 18 xH A l
def sL{α:Type}(p:α->Bool)(l:List α)(m:Nat):List α:=(l.filter p).take m
theorem xz{α:Type}{p:α->Bool}{l:List α}{k:Nat}(h:((l.take k).filter p).length=m):sL p l m=(l.take k).filter p:=by
 unfold sL;have e:l.filter p=(l.take k).filter p++(l.drop k).filter p:=by rw[<-List.filter_append,List.take_append_drop]
 rw[e,List.take_append_of_le_length Y,List.take_of_length_le Y]
theorem EM{α:Type}{p:α->Bool}{l:List α}(h:(l.filter p).length<=m):sL p l m=l.filter p:=List.take_of_length_le h
theorem ux{α:Type}{p:α->Bool}{l:List α}{k:Nat}(O:k<l.length):(l.take (k+1)).filter p=(l.take k).filter p++(if p l[k]then[l[k]]else[]):=by
 rw[List.take_succ_eq_append_getElem O,List.filter_append];cases h:p l[k]<;>simp[h]
def zi(a:sg):Bool:=a.check==0
theorem KI(a:sg)(h:a.ip.length=16)(w:World):Calls prog 53 #[.agg a.cells.toArray] w (rW (.bool (zi a)) w):=by
 have hcl:=a.rY h;have AC:=J (fun W=>yt a h W);have al:zi a=(a.check==0):=rfl;have HK:=J al;clear al;generalize a.cells=L,a.check=ck at*;have HB:Below w.heap.size w (w.alloc (.cells L.toArray 67)):=fZ;go_enter func53,ntmps53;go_wp2_with(refine rF (.load 67 (.tmp 1)) I ?_;go_must(refine rG I _ _ I w.heap.size 0 I (N.new w 67 L) 18 Y _ underlying67 I uq L (uH Y) ?_));exact pB
theorem FZ(n a b:Int)(w:World):Calls prog 59 #[.int .i64 n,.int .i64 a,.int .i64 b] w (uQ (.int .i64 (min (max n a) b)) w):=by
 go_enter func59,ntmps59;go_wp2;all_goals(go_ret;exact uQ.mk (wv Y) I)
def wC{α:Type}(e:TypeId)(k:Nat)(R:World->List Value->α->Prop)(l:List α)(w:World)(x:Ending)(w':World):Prop:=∃v,x= .returned v/\rJ w' w.heap.size e k (R w') v l/\ao w w'
theorem Xb(A:Option Addr)(c:Nat)(l:List sg)(m:Nat)(w:World)(hA:Ua w A l)(E:l.length<=17592186044416)(hm:m<=100):
  Calls prog 52 #[.slice A l.length c,.int .i64 m,.func (.func 53) #[] #[]] w (wC 67 18 (fun _=>xH) (sL zi l m) w):=by
 have amn:(sg.zero.cells).length=18:=sg.zero.rY I;obtain⟨p,hp⟩:∃p,p=zi:=gh;have MS:=J (fun a h W=>KI a h W);rw[<-hp]at MS⊢;clear hp;go_enter func52,ntmps52;go_wp2_with fail;go_loopw[7,12] (fun kv iv wr=>∃k:Nat,k<=l.length/\iv= .int .i64 k/\uG wr w.heap.size kv ((l.take k).filter p)/\((l.take k).filter p).length<=m/\ao w wr) (fun _ iv _=>l.length-(intOf iv).toNat)
 case atStart=>exact⟨0,Nat.zero_le _,I,rJ.nil _ _ _ _ _,ar,Below.refl _ _⟩
 obtain⟨k,O,rfl,ho,hle,hB⟩:=hrel;obtain⟨Ak,ck,hv⟩:=ho.form;subst hv;by_cases aA:k<l.length
 case neg=>exact mG
 have h1:(k:Int)<l.length:=Y;obtain⟨b,off,rfl,Z,hr⟩:=hA Y;obtain⟨cs,hcs,hce,rB⟩:=hr k aA;have hcs:=rN hcs hB Z;have hcl:cs.length=18:=kP;have w1:∀v∈cs,v.oneCell'=true:=jq;have MK:Hid (∀W,Calls prog 53 #[.agg cs.toArray] W (rW (.bool (p l[k])) W)):=kR;have HC:=J hce;have HO:=J ho;have HI:=J rB;clear hce rB hr ho hA;have W1:Below wr.heap.size wr (wr.alloc (.cells sg.zero.cells.toArray 67)):=fZ;by_cases aj8:((l.take k).filter p).length<m
 case neg=>
  have ag2:¬(((l.take k).filter p).length:Int)<m:=Y;go_wp2_with(first
   |(refine rF (.load 67 (.tmp 14)) rfl ?_;go_must(refine sr rfl 67 (.tmp 14) rfl b (off+k*18) rfl cs hcs _ underlying67 rfl bL ?_))
   |(refine rF (.store 67 (.tmp 9) (.tmp 15)) rfl (ab rfl wr.heap.size 0 cs (N.new wr 67 sg.zero.cells) bQ bL w1 ?_)))
  intro B B1 g1 _;have H1:=rE (rC hB hB.size W1) g1 aS hB.size;have K1:=rE W1 g1 W1.size (Nat.le_refl _);clear g1 B1 W1;go_wp2_with fail;go_ret;refine⟨_,I,?_,H1⟩;have e:((l.take k).filter p).length=m:=Y;rw[xz e];exact rJ.G (R':=xH) HO.out K1 (fun _ _ h=>h)
 have ag2:(((l.take k).filter p).length:Int)<m:=Y;go_wp2_with(first
  |(refine rF (.load 67 (.tmp 14)) rfl ?_;go_must(refine sr rfl 67 (.tmp 14) rfl b (off+k*18) rfl cs hcs _ underlying67 rfl bL ?_))
  |(refine rF (.store 67 (.tmp 9) (.tmp 15)) rfl (ab rfl wr.heap.size 0 cs (N.new wr 67 sg.zero.cells) bQ bL w1 ?_)))
 intro B B1 g1 _;have B1':=tH B1 Y;have H1:=rE (rC hB hB.size W1) g1 aS hB.size;clear B1;go_wp2_with(refine rF (.load 67 (.tmp 9)) I ?_;go_must(refine rG I _ _ I wr.heap.size 0 I B1' 18 Y _ underlying67 I uq cs (uH Y) ?_));refine(MK.out _).mono ?_;rintro _ w2 ⟨rfl,b2⟩;have B2:=B1'.G b2 B1'.lt;have H2:=rC H1 H1.size b2;have K2:=rC (rE W1 g1 W1.size (Nat.le_refl _)) bS b2;have O2:=rJ.G (R':=xH) HO.out K2 (fun _ _ h=>h);have FS:=J (ux (p:=p) aA);have hlen:((l.take k).filter p).length+1<=200:=Y;clear MS MK hcs W1 g1 b2 B1' HO H1;cases hpk:p l[k]with
 |false=>exact mP
 |true=>
  rw[hpk]at FS;have HP:=J hpk;have K3:Below w2.heap.size w2 (w2.alloc (.cells cs.toArray 67)):=fZ;have O3:=rJ.G (R':=xH) O2 K3 (fun _ _ h=>h);have N3:=O2.ne (Nat.le_refl _);clear hpk;go_wp2_with(first
   |(refine rF (.load 67 (.tmp 9)) rfl ?_;go_must(refine rG rfl _ _ rfl wr.heap.size 0 rfl B2 18 Y _ underlying67 rfl uq cs (uH Y) ?_))
   |(refine rF (.buildSlice 25 1 #[(0,.tmp 24)]) rfl ?_;go_must(refine uT rfl 25 67 _ 18 32 underlying25 vg K K (.tmp 24) rfl cs rfl hcl ?_))
   |(at_builtin;go_must(refine sJ _ rfl _ _ 25 rfl 67 _ 18 32 underlying25 vg (by kernel_rfl) K w.heap.size _ _ rfl O3 bU w2.heap.size cs l[k] rfl (N.new _ _ _) N3 hcl w1 ⟨HC.out,HI.out⟩ aL Y ?_)))
  exact mH
structure Lt where
 ds:List Int
 us:Nat
def Bi(l:List Int):List Value:=l.map (Value.int .i64)
def Lt.get(L:Lt):Int:=if h:L.us<L.ds.length then L.ds[L.us]else L.us
def wW(L:Lt)(n:Int):Int×Lt:=(IntKind.u64.wrap L.get%n,⟨L.ds,L.us+1⟩)
def sE(w:World)(g:Nat)(L:Lt):Prop:=∃v,N w g 99 [v,.int .i64 L.us]/\w.ownsRow 0 3 1 v L.ds.length (Bi L.ds)/\∀k,v.ownBlock=some k->k<g
theorem sE.lt{L:Lt}(h:sE w g L):g<w.heap.size:=by obtain⟨_,h,_⟩:=h;exact h.lt
theorem sE.G{L:Lt}(h:sE w g L)(Z:ao w w'):sE w' g L:=by
 obtain⟨v,U,F,h3⟩:=h;exact⟨v,U.G Z U.lt,sT F Z,h3⟩
theorem sE.fr{L:Lt}(h:sE w g L)(k:Fr S w w')(hg:¬S g):sE w' g L:=by
 obtain⟨v,U,F,h3⟩:=h;exact⟨v,k.sD U hg,k.own F bV,h3⟩
theorem EO(L:Lt){n:Int}(hn:0<n):0<=(wW L n).1/\(wW L n).1<n:=⟨Int.emod_nonneg _ Y,Int.emod_lt_of_pos _ hn⟩
theorem Jl(d n:Int)(U:0<n)(F:n<=100000):wrap64 ((IntKind.u64.wrap d).tmod n)=IntKind.u64.wrap d%n:=by
 have hu0:0<=IntKind.u64.wrap d:=by rw[IntKind.wrap_u64];omega
 have h3:=Int.emod_nonneg (IntKind.u64.wrap d) (show n≠0 by omega);have h4:=Int.emod_lt_of_pos (IntKind.u64.wrap d) U;rw[Int.tmod_eq_emod_of_nonneg hu0];exact IntWalk.wrap64_in _ ⟨Y,Y⟩
def Vq(g:Nat)(r:Int×Lt)(w:World)(e:Ending)(w':World):Prop:=e= .returned (.int .i64 r.1)/\sE w' g r.2/\w.grownBy w' (some g)
theorem Qv(g:Nat)(L:Lt)(n:Int)(w:World)(h:sE w g L)(hn:0<n)(hn2:n<=100000)(hu:L.us<=1000000000)(hd:L.ds.length<=17592186044416):
  Calls prog 141 #[.pointer (some ⟨g,0,none⟩),.int .i64 n] w (Vq g (wW L n) w):=by
 obtain⟨v,Z,ho,rH⟩:=h;obtain⟨A,c,rfl⟩:=tp ho;have hgl:=Z.lt;have c0:=Z.rD 0 I;have c1:=Z.rD 1 I;have f1:=Z.frozen 1;have hn':decide (n<1)=false:=aB;have hu0:(0:Int)<=L.us:=Y;have hwn:IntKind.u64.wrap n=n:=io;have hn0:¬n=0:=Y;have hu1:(L.us:Int)<=1000000000:=Y;have DV:=J (Jl L.get n hn hn2);have FIN:Hid (∀B,ao w B->Vq g (wW L n) w (.returned (.int .i64 (IntKind.u64.wrap L.get%n))) (B.setCell ⟨g,1,none⟩ (.int .i64 ((L.us:Int)+1)))):=J (fun B U=>by
  have e:(.int .i64 ((L.us:Int)+1))=Value.int .i64 ((L.us+1:Nat):Int):=fY;rw[e];have hg:B.grownBy (B.setCell ⟨g,1,none⟩ (.int .i64 ((L.us+1:Nat):Int))) (some g):=jt;refine⟨I,⟨_,(Z.G U Z.lt).set 1 _,?_,rH⟩,rO (r5 U _) hg (.inl I)⟩;exact tY (sT ho U) hg (Z.G U Z.lt) K)
 by_cases aA:L.us<L.ds.length
 case pos=>
  have e1:L.get=L.ds[L.us]:=by unfold Lt.get;rw[dif_pos aA]
  rw[e1]at DV FIN;obtain⟨b,M,rfl,hM,hT,_⟩:=wU ho Y (by simp[Bi]);have cd:w.cell? ⟨b,L.us,none⟩=some (.int .i64 L.ds[L.us]):=hM.rD _ (by
   have:(M.take (L.ds.length*1))[L.us]?=some (.int .i64 L.ds[L.us]):=by rw[hT];simp[Bi,aA]
   rwa[List.getElem?_take_of_lt Y]at this)
  have h1:decide (L.us<L.ds.length)=true:=jX;clear Z ho e1 hM hT hn hn2 rH;generalize L.ds[L.us]=d at*;go_enter func141,ntmps141;go_wp2_with fail;go_quiet(fail);go_wp2_with fail;go_quiet(fail);go_wp2_with fail;go_ret;rw[DV.out];exact rq
 case neg=>
  have e1:L.get=L.us:=by unfold Lt.get;rw[dif_neg aA]
  rw[e1]at DV FIN;have h1:decide (L.us<L.ds.length)=false:=jX;have hwu:IntKind.u64.wrap (L.us:Int)=L.us:=io;have DV2:Hid (wrap64 ((L.us:Int)%n)=(L.us:Int)%n):=J (by have:=Jl L.us n hn hn2;rwa[hwu,Int.tmod_eq_emod_of_nonneg hu0]at this);rw[hwu]at FIN;clear Z ho e1 hn hn2 hwu DV rH;go_enter func141,ntmps141;go_wp2_with fail;go_quiet(fail);go_wp2_with fail;go_ret;rw[DV2.out];exact rq
def afO(ds:List Int)(w:World)(e:Ending)(w':World):Prop:=∃g,e= .returned (.pointer (some ⟨g,0,none⟩))/\sE w' g ⟨ds,0⟩/\ao w w'/\w.heap.size<=g
theorem EP(A:Option Addr)(c:Nat)(ds:List Int)(w:World)(hA:0<ds.length->∃b off,A=some ⟨b,off,none⟩/\w.rangeAt b off (Bi ds))(E:ds.length<=17592186044415):
  Calls prog 13 #[.slice A ds.length c] w (afO ds w):=by
 go_enter func13,ntmps13;go_wp2_with(at_builtin;go_must(refine uR w I _ _ 56 I 3 (.int .i64 0) 1 8 underlying56 (by kernel_rfl) I K w.heap.size rI 0 [] I (World.ownsRow_nil _ _ _ _) (Nat.le_refl _) A ds.length c (Bi ds) I hA (by simp[Bi]) (fun u hu=>by obtain⟨b,_,rfl⟩:=List.mem_map.1 hu;rfl) aL Y ds.length Y ?_));intro A' c' B ho hg;have b1:ao w B:=(Below.refl _ _).grown hg (Nat.le_refl _) (by simp[rI,Value.ownBlock]);clear hg;go_wp2_with fail;go_ret;have BB:Below B.heap.size B (B.alloc (.cells #[.slice A' ds.length c',.int .i64 0] 99)):=fZ;refine⟨B.heap.size,I,⟨_,N.new _ _ _,?_,fun k O=>(ho.lt k O).2⟩,rC b1 b1.size BB,b1.size⟩;exact sT (xi ho) BB
end Go.Proofs.YtakkipnmpmobbaaGreat
