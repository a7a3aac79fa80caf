/-
  What octets say,plainly:names,numbers,records' data,questions,records,messages.
-/
import Derived.Test.YtakkipnmpmobbaaGreatHUq
import Derived.Test.YtakkipnmpmobbaaGreatHSq
namespace Go.Proofs.YtakkipnmpmobbaaGreat
open _root_.Go.Proofs.Tryz
set_option maxHeartbeats 8000000
set_option linter.unusedVariables false
set_option linter.unusedSimpArgs false
variable {k c Hh s g lo:Nat} {ops:Array Oper} {rest:List Oper} {o:Oper} {w w':World} {t:TypeId} {cs:List Value} {v:Value} {A:Option Addr} {x:Int}
def vO(m:List UInt8)(p:Nat):Except Int (List (List UInt8)×Nat):=match Ca m p with
 | .ok l n=>.ok (l,n)
 | .err e=>.error e
 | .go _=>.error 0
def xh(m:List UInt8)(p:Nat):Except Int (List (List UInt8)×Nat):=match vO m p with
 | .ok x=>.ok x
 | .error e=>.error (if e=1 then 5 else e)
def uo(m:List UInt8)(k p:Nat):Except Int (Nat×Nat):=if m.length<p+k then .error 1 else .ok (sY ((m.take (p+k)).drop p),p+k)
def vy(s:List UInt8)(p:Nat):Except Int (List (List UInt8)):=match xh s p with
 | .error e=>.error e
 | .ok (l,q)=>if q=s.length then .ok l else .error 5
def DU(s:List UInt8)(p:Nat):List Int:=[(sY ((s.drop p).take 4):Int),(sY ((s.drop (p+4)).take 4):Int),(sY ((s.drop (p+8)).take 4):Int),(sY ((s.drop (p+12)).take 4):Int),(sY ((s.drop (p+16)).take 4):Int)]
def wN(m:List UInt8)(a n:Nat)(Q cl:Int):Except Int RR:=
 if sf Q cl=1 then(if n=4 then .ok {RR.zero with ad:=⟨4,(m.take (a+n)).drop a++List.replicate 12 0,0⟩}else .error 5)
 else if sf Q cl=28 then(if n=16 then .ok {RR.zero with ad:=⟨6,(m.take (a+n)).drop a,0⟩}else .error 5)
 else if sf Q cl=5\/sf Q cl=12 then(match vy (m.take (a+n)) a with
  | .error e=>.error e
  | .ok l=>.ok {RR.zero with tg:=l})
 else if sf Q cl=33 then(if n<6 then .error 5 else match vy (m.take (a+n)) (a+6)with
  | .error e=>.error e
  | .ok l=>.ok {RR.zero with pri:=sY (((m.take (a+n)).drop a).take 2),we:=sY ((((m.take (a+n)).drop a).drop 2).take 2),po:=sY ((((m.take (a+n)).drop a).drop 4).take 2),tg:=l})
 else if sf Q cl=6 then(match xh (m.take (a+n)) a with
  | .error e=>.error e
  | .ok (l,p)=>match xh (m.take (a+n)) p with
   | .error e=>.error e
   | .ok (l',q)=>if q+20=(m.take (a+n)).length then .ok {RR.zero with tg:=l,ml:=l',abY:=DU (m.take (a+n)) q}else .error 5)
 else .ok {RR.zero with raw:=(m.take (a+n)).drop a}
def uC(m:List UInt8)(p:Nat):Except Int (Qn×Nat):=match vO m p with
 | .error e=>.error e
 | .ok (n,p)=>match uo m 2 p with
  | .error e=>.error e
  | .ok (Q,p)=>match uo m 2 p with
   | .error e=>.error e
   | .ok (cl,p)=>.ok (⟨n,Q,cl⟩,p)
def th(m:List UInt8)(p:Nat):Except Int (RR×Nat):=match vO m p with
 | .error e=>.error e
 | .ok (n,p)=>match uo m 2 p with
  | .error e=>.error e
  | .ok (Q,p)=>match uo m 2 p with
   | .error e=>.error e
   | .ok (cl,p)=>match uo m 4 p with
    | .error e=>.error e
    | .ok (ttl,p)=>match uo m 2 p with
     | .error e=>.error e
     | .ok (sz,p)=>if m.length<p+sz then .error 1 else match wN m p sz Q cl with
      | .error e=>.error e
      | .ok r=>.ok ({r with name:=n,Q:=Q,cl:=cl,ttl:=ttl},p+sz)
def sF{α:Type}(f:Nat->Except Int (α×Nat)):Nat->Nat->Except Int (List α×Nat)
 |0,p=>.ok ([],p)
 |k+1,p=>match f p with
  | .error e=>.error e
  | .ok (x,p)=>match sF f k p with
   | .error e=>.error e
   | .ok (l,p)=>.ok (x::l,p)
def vP{α:Type}(acc:List α)(o:Except Int (List α×Nat)):Except Int (List α×Nat):=match o with
 | .error e=>.error e
 | .ok (l,p)=>.ok (acc++l,p)
theorem Ly{α:Type}{f:Nat->Except Int (α×Nat)}{acc:List α}{p p':Nat}{x:α}(h:f p= .ok (x,p')):vP acc (sF f (k+1) p)=vP (acc++[x]) (sF f k p'):=by
 simp only[sF,h];cases sF f k p' with
 |error e=>rfl
 |ok y=>obtain⟨l,q⟩:=y;simp[vP]
theorem LF{α:Type}{f:Nat->Except Int (α×Nat)}{acc:List α}{p:Nat}{e:Int}(h:f p= .error e):vP acc (sF f (k+1) p)= .error e:=by
 simp only[sF,h,vP]
theorem WG{α:Type}{f:Nat->Except Int (α×Nat)}{acc:List α}{p:Nat}:vP acc (sF f 0 p)= .ok (acc,p):=by simp[sF,vP]
theorem I7{α:Type}(o:Except Int (List α×Nat)):vP [] o=o:=by
 cases o with
 |error e=>rfl
 |ok y=>obtain⟨l,q⟩:=y;simp[vP]
def vZ(m:List UInt8):Except Int tq:=
 if 65535<m.length then .error 3
 else if m.length<12 then .error 1
 else match sF (uC m) (xp m 4) 12 with
  | .error e=>.error e
  | .ok (q,p)=>match sF (th m) (xp m 6) p with
   | .error e=>.error e
   | .ok (a,p)=>match sF (th m) (xp m 8) p with
    | .error e=>.error e
    | .ok (u,p)=>match sF (th m) (xp m 10) p with
     | .error e=>.error e
     | .ok (x,p)=>if p<m.length then .error 2 else .ok ⟨Fz (xp m 0) (xp m 2),q,a,u,x⟩
def WH(e:Int):Prop:=e=1\/e=3\/e=4\/e=7\/e=9
theorem WH.ne{e:Int}(h:WH e):e≠0:=by unfold WH at h;omega
theorem yW(m:List UInt8)(p:Nat):(∃l n,Ca m p= .ok l n/\vO m p= .ok (l,n)/\n<=m.length/\wJ l/\1+sq l<=255)\/(∃e,Ca m p= .err e/\vO m p= .error e/\WH e):=by
 have:=Zc m p;unfold vO;cases h:Ca m (p:Int)with
 |ok l n=>rw[h]at this;exact .inl ⟨l,n,I,I,this.2.2,this.1,this.2.1⟩
 |err e=>rw[h]at this;exact .inr ⟨e,I,I,this⟩
 |go s=>rw[h]at this;exact False.elim this
def TS(e:Int):Prop:=e=5\/e=3\/e=4\/e=7\/e=9
theorem TS.ne{e:Int}(h:TS e):e≠0:=by unfold TS at h;omega
theorem TS.nz{e:Int}(h:TS e):(e !=0)=true:=by simp;exact h.ne
theorem zH(m:List UInt8)(p:Nat):(∃l n,Ca m p= .ok l n/\xh m p= .ok (l,n)/\n<=m.length/\wJ l/\1+sq l<=255)\/(∃e,Ca m p= .err e/\xh m p= .error (if e=1 then 5 else e)/\WH e/\TS (if e=1 then 5 else e)):=by
 unfold xh;rcases yW m p with⟨l,n,U,F,h3⟩|⟨e,U,F,h3⟩
 ·exact .inl ⟨l,n,U,by rw[F],h3⟩
 ·refine .inr ⟨e,U,by rw[F],h3,?_⟩;unfold WH at h3;unfold TS;split<;>omega
open Go.RowKit
set_option maxRecDepth 100000
def Rows(w:World):List (List Value)->List RR->Prop
 |[],[]=>True
 |cs::css,r::l=>yJ w cs r/\Rows w css l
 |_,_=>False
theorem Vn:(prog.info? 201).map (fun i=>(i.zero,i.size,i.bytes))=some (some (.agg vM.toArray),33,208):=by kernel_rfl
theorem Zy(w:World)(Q:TypeId)(Hh:Nat)(v:Value)(n:Nat)(xs:List Value)(ad1:w.ownsRow Hh 201 33 v n xs)(hB:Hh<=w.heap.size)(A:Option Addr)(m c:Nat)(news:List Value)(hn:0<m->∃b off,A=some ⟨b,off,none⟩/\w.rangeAt b off news)(E:news.length=m*33)(U:∀u∈news,u.oneCell'=true)(Z:n+m<=300000):
  ∃v' w',(Builtin.append_ #[167,167] Q #[v,.slice A m c]).run prog w= .ok v' w'/\w'.ownsRow Hh 201 33 v' (n+m) (xs++news)/\w.grownBy w' v.ownBlock:=by
 obtain⟨i,hi,hz,adR,hby⟩:=info_parts Vn;by_cases hm:0<m
 ·
  obtain⟨b,off,rfl,hr⟩:=hn hm;obtain⟨v',w',hr,F,h3,_,h5⟩:=run_append_own_at (P:=prog) w Hh 167 Q 201 i _ 33 208 underlying167 hi hz adR hby (by rw[show(Value.agg vM.toArray).cells=vM.toArray from I];simp[Bd]) Y v n xs ad1 ⟨b,off,none⟩ m c news E (fun j u hu=>by
   have ahN:(⟨b,off,none⟩:Addr).add j=⟨b,off+j,none⟩:=gG;rw[ahN];exact hr j u hu) U aL Y hB
  exact qx
 ·
  obtain rfl:m=0:=Y;have ant:news=[]:=gE;subst ant;have hv:∃A' c',v= .slice A' n c'/\n<=c':=by exact nW
  obtain⟨A',c',rfl,aii⟩:=hv;refine⟨.slice A' n c',w,?_,fS,World.grownBy.refl _ _⟩;cases A with
  |none=>cases A'<;>simp[Builtin.append_,run_underlying underlying167,sizeOf,typeInfo,hi,adR,Builtin.lenOf,aii,Builtin.firstCells,storeCells]
  |some ad=>have hl0:(loadCells ad 0).run prog w= .ok #[] w:=rfl;cases A'<;>simp[hl0,Builtin.append_,run_underlying underlying167,sizeOf,typeInfo,hi,adR,Builtin.lenOf,aii,Builtin.firstCells,storeCells]
theorem Qf(w:World){a:Act}{hb:Exit->Act->World->Prop}(hgd:o.guard=none)(s x:Operand)
  (ho:o.op= .call {callee:=.builtin .append,args:= #[s,x],argTypes:= #[167,167]})
  (Hh:Nat) (v:Value) (n:Nat) (xs:List Value) (hs:a.eval s=v) (ad1:w.ownsRow Hh 201 33 v n xs) (hB:Hh<=w.heap.size) (A:Option Addr) (m c:Nat) (news:List Value) (hx:a.eval x= .slice A m c)
  (hn:0<m->∃b off,A=some ⟨b,off,none⟩/\w.rangeAt b off news) (E:news.length=m*33) (U:∀u∈news,u.oneCell'=true) (Z:n+m<=300000) (k:Nat) (O:k=n+m)
  (h:∀A' c' w',w'.ownsRow Hh 201 33 (.slice A' k c') k (xs++news)->w.grownBy w' v.ownBlock->wpList prog ops hb rest (a.put o.dst (.slice A' k c')) w'):
  wpList prog ops hb (o::rest) a w:=by
 subst O;refine wpList_plain hgd fun al hK=>?_
 obtain⟨v',w',hr,F,h3⟩:=Zy w o.type Hh v n xs ad1 hB A m c news hn E U Z;exact m6
def y7(w:World)(v:Value)(n:List (List UInt8)):Prop:=tw w v n/\rR n=0
def rZ(w w':World):Prop:=∀v n,tw w v n->tw w' v n
theorem rZ.refl(w:World):rZ w w:=fun _ _ h=>h
theorem rZ.trans{a b c:World}(h:rZ a b)(k:rZ b c):rZ a c:=fun v n x=>k v n (h v n x)
theorem rZ.G(h:ao w w'):rZ w w':=fun _ _ x=>x.G h
theorem rZ.sD(hg:w.grownBy w' (some k))(O:N w k t cs)(ht:t≠9):rZ w w':=fun _ _ x=>x.grown hg O ht
theorem rZ.own{e:TypeId}{n:Nat}{xs:List Value}(h:w.ownsRow Hh e s v n xs)(hl:9≠e)(hg:w.grownBy w' v.ownBlock):rZ w w':=fun _ _ x=>zD x h hl hg
theorem y7.rM{n:List (List UInt8)}(h:y7 w v n)(k:rZ w w'):y7 w' v n:=⟨k _ _ h.1,h.2⟩
theorem y7.nil(w:World):y7 w rI []:=⟨tw.nil w,I⟩
theorem y7.form{n:List (List UInt8)}(h:y7 w v n):∃A c,v= .slice A n.length c/\wA w A c n:=by
 obtain⟨A,c,U,F,h3⟩:=h.1.form;obtain⟨h4,h5⟩:=ud h.2;have h6:=yV n;exact⟨A,c,U,F,h3,Y,fun l E=>by have:=h4 l E;omega⟩
theorem y7.one{n:List (List UInt8)}(h:y7 w v n):v.oneCell'=true:=by obtain⟨A,c,rfl,_⟩:=h.form;rfl
theorem y7.cells{n:List (List UInt8)}(h:y7 w v n):v.cells= #[v]:=by obtain⟨A,c,rfl,_⟩:=h.form;rfl
theorem y7.mk'{n:List (List UInt8)}(h:tw w v n)(g:wJ n)(s:1+sq n<=255):y7 w v n:=⟨h,Iy g s⟩
def wB(w:World)(cs:List Value)(r:RR):Prop:=∃vn vt vm,cs=uz vn vt vm r/\r.wf/\y7 w vn r.name/\y7 w vt r.tg/\y7 w vm r.ml/\r.raw.length<=140737488355328
theorem wB.rM{r:RR}(h:wB w cs r)(k:rZ w w'):wB w' cs r:=by
 obtain⟨vn,vt,vm,U,F,h3,h4,h5,h6⟩:=h;exact⟨vn,vt,vm,U,F,h3.rM k,h4.rM k,h5.rM k,h6⟩
theorem wB.is{r:RR}(h:wB w cs r):yJ w cs r:=by
 obtain⟨vn,vt,vm,U,F,h3,h4,h5,h6⟩:=h;obtain⟨An,cn,rfl,n3⟩:=h3.form;obtain⟨At,ct,rfl,n4⟩:=h4.form;obtain⟨Am,cm,rfl,n5⟩:=h5.form;exact⟨An,cn,At,ct,Am,cm,U,F,n3,n4,n5,h6⟩
def I8(w:World)(cs:List Value)(q:Qn):Prop:=∃vn,cs=qC vn q/\y7 w vn q.name
theorem I8.rM{q:Qn}(h:I8 w cs q)(k:rZ w w'):I8 w' cs q:=by obtain⟨vn,U,F⟩:=h;exact⟨vn,U,F.rM k⟩
theorem I8.len{q:Qn}(h:I8 w cs q):cs.length=3:=by obtain⟨vn,rfl,_⟩:=h;rfl
theorem I8.one{q:Qn}(h:I8 w cs q):∀v∈cs,v.oneCell'=true:=by
 obtain⟨vn,rfl,F⟩:=h;intro v hv;simp only[qC,List.mem_cons,List.not_mem_nil,or_false]at hv;rcases hv with rfl|rfl|rfl
 ·exact F.one
 ·rfl
 ·rfl
def wO{α:Type}(R:List Value->α->Prop):List (List Value)->List α->Prop
 |[],[]=>True
 |cs::css,r::l=>R cs r/\wO R css l
 |_,_=>False
section
variable {α:Type} {R R':List Value->α->Prop}
theorem wO.TU{cs:List Value}{x:α}(hx:R cs x):∀{css:List (List Value)} {l:List α},wO R css l->wO R (css++[cs]) (l++[x])
 |[],[],_=>⟨hx,trivial⟩
 |_::_,_::_,h=>⟨h.1,wO.TU hx h.2⟩
theorem wO.mono(hm:∀cs x,R cs x->R' cs x):∀{css:List (List Value)} {l:List α},wO R css l->wO R' css l
 |[],[],_=>trivial
 |_::_,_::_,h=>⟨hm _ _ h.1,wO.mono hm h.2⟩
theorem wO.get{k:Nat}(O:∀cs x,R cs x->cs.length=k):∀{css:List (List Value)} {l:List α},wO R css l->∀(rest:List Value) (i:Nat) (hi:i<l.length),∃cs,((css.flatten++rest).drop (i*k)).take k=cs/\R cs l[i]
 |[],[],_,_,i,hi=>absurd hi ar
 |cs::css,r::l,h,rest,0,hi=>by
  refine⟨cs,?_,h.1⟩;simp only[List.flatten_cons,Nat.zero_mul,List.drop_zero,List.append_assoc];exact List.take_left' (O _ _ h.1)
 |cs::css,r::l,h,rest,i+1,hi=>by
  obtain⟨ck,U,F⟩:=wO.get O h.2 rest i aG;refine⟨ck,?_,fT⟩;rw[<-U];simp only[List.flatten_cons,List.append_assoc];rw[show(i+1)*k=cs.length+i*k by rw[O _ _ h.1,Nat.succ_mul,Nat.add_comm],<-List.drop_drop,List.drop_left]
def rJ(w:World)(Hh:Nat)(e:TypeId)(k:Nat)(R:List Value->α->Prop)(v:Value)(l:List α):Prop:=∃css,w.ownsRow Hh e k v l.length css.flatten/\wO R css l
theorem rJ.form{e:TypeId}{l:List α}(h:rJ w Hh e k R v l):∃A c,v= .slice A l.length c:=by
 obtain⟨css,U,_⟩:=h;exact tp U
theorem rJ.rU{e:TypeId}{l:List α}(O:∀cs x,R cs x->cs.length=k)(h:rJ w Hh e k R (.slice A l.length c) l)(hp:0<l.length):
  ∃g,A=some ⟨g,0,none⟩/\g<w.heap.size/\∀i (hi:i<l.length),∃cs,w.rangeAt g (0+i*k) cs/\R cs l[i]:=by
 obtain⟨css,ad1,hr⟩:=h;rcases ad1.2 with⟨_,h0⟩|⟨g,cap,cur,hv,hB,hg,hc,hm,hs,ht⟩
 ·omega
 ·
  injection hv with U F h3;have hcl:cur.toList.length=cur.size:=ar;have htk:cur.toList=css.flatten++cur.toList.drop (l.length*k):=by rw[<-ht,List.take_append_drop]
  have Z:N w g e cur.toList:=hg;have hle:l.length*k<=cur.toList.length:=by rw[hcl,hs];exact Nat.mul_le_mul_right _ hc
  refine⟨g,U,Z.lt,fun i hi=>?_⟩;obtain⟨cs,e1,e2⟩:=hr.get O (cur.toList.drop (l.length*k)) i hi;rw[<-htk]at e1;refine⟨cs,?_,e2⟩;rw[<-e1,Nat.zero_add];have h4:(i+1)*k<=l.length*k:=Nat.mul_le_mul_right _ hi;rw[Nat.succ_mul]at h4;exact Z.range (i*k) k Y
end
abbrev sM(w:World)(Hh:Nat)(v:Value)(l:List RR):Prop:=rJ w Hh 201 33 (wB w) v l
abbrev uJ(w:World)(Hh:Nat)(v:Value)(l:List Qn):Prop:=rJ w Hh 160 3 (I8 w) v l
theorem wB.len{r:RR}(h:wB w cs r):cs.length=33:=h.is.len
theorem wB.one{r:RR}(h:wB w cs r):∀v∈cs,v.oneCell'=true:=h.is.one
theorem sM.nil(w:World)(Hh:Nat):sM w Hh (.slice none 0 0) []:=⟨[],World.ownsRow_nil _ _ _ _,trivial⟩
theorem uJ.nil(w:World)(Hh:Nat):uJ w Hh (.slice none 0 0) []:=⟨[],World.ownsRow_nil _ _ _ _,trivial⟩
theorem sM.rr{l:List RR}(h:sM w Hh (.slice A l.length c) l):TH w A l:=by
 intro hp;obtain⟨g,U,F,h3⟩:=h.rU (fun _ _ h=>h.len) hp;refine⟨g,0,U,F,fun i hi=>?_⟩;obtain⟨cs,h4,h5⟩:=h3 i hi;exact⟨cs,h4,h5.is⟩
theorem uJ.qq{l:List Qn}(h:uJ w Hh (.slice A l.length c) l):QsR w A l:=by
 intro hp;obtain⟨g,U,F,h3⟩:=h.rU (fun _ _ h=>h.len) hp;refine⟨g,0,U,F,fun i hi=>?_⟩;obtain⟨cs,h4,vn,rfl,h5⟩:=h3 i hi;obtain⟨An,cn,rfl,h6⟩:=h5.form;exact⟨An,cn,h4,h6⟩
theorem rJ.rM{α:Type}{e:TypeId}{R R':List Value->α->Prop}{l:List α}(h:rJ w Hh e k R v l)(hr:∀xs,w.ownsRow Hh e k v l.length xs->w'.ownsRow Hh e k v l.length xs)(hm:∀cs x,R cs x->R' cs x):rJ w' Hh e k R' v l:=by
 obtain⟨css,U,F⟩:=h;exact⟨css,hr _ U,F.mono hm⟩
theorem sM.G{l:List RR}(h:sM w Hh v l)(Z:ao w w'):sM w' Hh v l:=h.rM (fun _ x=>sT x Z) (fun _ _ x=>x.rM (rZ.G Z))
theorem uJ.G{l:List Qn}(h:uJ w Hh v l)(Z:ao w w'):uJ w' Hh v l:=h.rM (fun _ x=>sT x Z) (fun _ _ x=>x.rM (rZ.G Z))
theorem tY{e:TypeId}{n:Nat}{xs:List Value}(h:w.ownsRow Hh e s v n xs)(hg:w.grownBy w' (some g))(Z:N w g t cs)(ht:t≠e):w'.ownsRow Hh e s v n xs:=by
 refine World.ownsRow.kept h hg ?_;cases hv:v.ownBlock with
 |none=>exact .inl I
 |some k=>
  refine .inr ?_;intro he;injection he with he;subst he;rcases h.2 with⟨rfl,_⟩|⟨g',cap,cur,rfl,_,hh,_⟩
  ·simp[Value.ownBlock]at hv
  ·have:g'=k:=lr;subst this;unfold N at Z;rw[hh]at Z;injection Z with Z;injection Z with _ he;exact ht he.symm
theorem sM.sD{l:List RR}(h:sM w Hh v l)(hg:w.grownBy w' (some g))(Z:N w g t cs)(U:t≠201)(F:t≠9):sM w' Hh v l:=h.rM (fun _ x=>tY x hg Z U) (fun _ _ x=>x.rM (rZ.sD hg Z F))
theorem uJ.sD{l:List Qn}(h:uJ w Hh v l)(hg:w.grownBy w' (some g))(Z:N w g t cs)(U:t≠160)(F:t≠9):uJ w' Hh v l:=h.rM (fun _ x=>tY x hg Z U) (fun _ _ x=>x.rM (rZ.sD hg Z F))
def sA(w:World)(cs:List Value)(m:tq):Prop:=∃vq va vu ve,cs=xR m.hd vq va vu ve/\uJ w 0 vq m.qs/\sM w 0 va m.an/\sM w 0 vu m.au/\sM w 0 ve m.ex/\m.qs.length<=65535/\m.an.length<=65535/\m.au.length<=65535/\m.ex.length<=65535
theorem sA.is{m:tq}(h:sA w cs m):∃Aq Aa Au Ae cq ca cu ce,Ct w cs m Aq Aa Au Ae cq ca cu ce:=by
 obtain⟨vq,va,vu,ve,U,F,h3,h4,h5,l1,l2,l3,l4⟩:=h;obtain⟨Aq,cq,rfl⟩:=F.form;obtain⟨Aa,ca,rfl⟩:=h3.form;obtain⟨Au,cu,rfl⟩:=h4.form;obtain⟨Ae,ce,rfl⟩:=h5.form;exact⟨Aq,Aa,Au,Ae,cq,ca,cu,ce,U,F.qq,h3.rr,h4.rr,h5.rr,Y,Y,Y,Y⟩
theorem sA.G{m:tq}(h:sA w cs m)(Z:ao w w'):sA w' cs m:=by
 obtain⟨vq,va,vu,ve,U,F,h3,h4,h5,l⟩:=h;exact⟨vq,va,vu,ve,U,F.G Z,h3.G Z,h4.G Z,h5.G Z,l⟩
def tq.zero:tq:=⟨Hd.zero,[],[],[],[]⟩
def sV:List Value:=xR Hd.zero rI rI rI rI
theorem sA.zero(w:World):sA w sV tq.zero:=⟨rI,rI,rI,rI,I,uJ.nil w 0,sM.nil w 0,sM.nil w 0,sM.nil w 0,by simp[tq.zero],by simp[tq.zero],by simp[tq.zero],by simp[tq.zero]⟩
def strs(n:List (List UInt8)):List Value:=n.map fun t=>Value.string (bs t)
theorem ZA(n:List (List UInt8)):(strs n).length=n.length:=by simp[strs]
theorem ZB(n:List (List UInt8)):∀v∈strs n,v.oneCell'=true:=by
 intro v hv;exact rp
theorem ZC(w:World)(Q:TypeId)(Hh:Nat)(v:Value)(n:Nat)(xs:List Value)(ad1:w.ownsRow Hh 9 1 v n xs)(hB:Hh<=w.heap.size)(A:Option Addr)(m c:Nat)(news:List Value)(hn:0<m->∃b off,A=some ⟨b,off,none⟩/\w.rangeAt b off news)(E:news.length=m)(U:∀u∈news,u.oneCell'=true)(Z:n+m<=300000):
  ∃v' w',(Builtin.append_ #[24,24] Q #[v,.slice A m c]).run prog w= .ok v' w'/\w'.ownsRow Hh 9 1 v' (n+m) (xs++news)/\w.grownBy w' v.ownBlock:=by
 obtain⟨i,hi,hz,adR,hby⟩:=info_parts xK;by_cases hm:0<m
 ·
  obtain⟨b,off,rfl,hr⟩:=hn hm;obtain⟨v',w',hr,F,h3,_,h5⟩:=run_append_own_at (P:=prog) w Hh 24 Q 9 i _ 1 16 underlying24 hi hz adR hby I Y v n xs ad1 ⟨b,off,none⟩ m c news Y (fun j u hu=>by
   have ahN:(⟨b,off,none⟩:Addr).add j=⟨b,off+j,none⟩:=gG;rw[ahN];exact hr j u hu) U aL Y hB
  exact qx
 ·
  obtain rfl:m=0:=Y;have ant:news=[]:=gE;subst ant;have hv:∃A' c',v= .slice A' n c'/\n<=c':=by exact nW
  obtain⟨A',c',rfl,aii⟩:=hv;refine⟨.slice A' n c',w,?_,fS,World.grownBy.refl _ _⟩;cases A with
  |none=>cases A'<;>simp[Builtin.append_,run_underlying underlying24,sizeOf,typeInfo,hi,adR,Builtin.lenOf,aii,Builtin.firstCells,storeCells]
  |some ad=>have hl0:(loadCells ad 0).run prog w= .ok #[] w:=rfl;cases A'<;>simp[hl0,Builtin.append_,run_underlying underlying24,sizeOf,typeInfo,hi,adR,Builtin.lenOf,aii,Builtin.firstCells,storeCells]
theorem Qg(w:World){a:Act}{hb:Exit->Act->World->Prop}(hgd:o.guard=none)(s x:Operand)
  (ho:o.op= .call {callee:=.builtin .append,args:= #[s,x],argTypes:= #[24,24]})
  (Hh:Nat) (v:Value) (n:Nat) (xs:List Value) (hs:a.eval s=v) (ad1:w.ownsRow Hh 9 1 v n xs) (hB:Hh<=w.heap.size) (A:Option Addr) (m c:Nat) (news:List Value) (hx:a.eval x= .slice A m c)
  (hn:0<m->∃b off,A=some ⟨b,off,none⟩/\w.rangeAt b off news) (E:news.length=m) (U:∀u∈news,u.oneCell'=true) (Z:n+m<=300000) (k:Nat) (O:k=n+m)
  (h:∀A' c' w',w'.ownsRow Hh 9 1 (.slice A' k c') k (xs++news)->w.grownBy w' v.ownBlock->wpList prog ops hb rest (a.put o.dst (.slice A' k c')) w'):
  wpList prog ops hb (o::rest) a w:=by
 subst O;refine wpList_plain hgd fun al hK=>?_
 obtain⟨v',w',hr,F,h3⟩:=ZC w o.type Hh v n xs ad1 hB A m c news hn E U Z;exact m6
theorem wA.range{n:List (List UInt8)}(h:wA w A c n):0<n.length->∃b off,A=some ⟨b,off,none⟩/\w.rangeAt b off (strs n):=by
 intro hp;obtain⟨b,off,U,F,h3⟩:=h.1 hp;refine⟨b,off,U,fun j v hv=>?_⟩;have hj:j<n.length:=by have:=(List.getElem?_eq_some_iff.1 hv).1;simpa[strs]using this
 rw[h3 j hj,<-hv];simp[strs,hj]
theorem WJ(w:World)(Hh:Nat)(hB:Hh<=w.heap.size):(w.alloc (.cells #[] 9)).ownsRow Hh 9 1 (.slice (some ⟨w.heap.size,0,none⟩) 0 0) 0 []:=by
 refine⟨I,.inr ⟨w.heap.size,0,#[],I,hB,heap_alloc_new w _,Nat.le_refl _,by simp[maxLen],I,I⟩⟩
theorem Vo(A:Option Addr)(n c:Nat)(w:World):(binOp BinOp.eql 24 (.slice A n c) (.slice none 0 0)).run prog w= .ok (.bool A.isNone) w:=by
 cases A<;>kernel_rfl
def I9(n:List (List UInt8))(w:World)(e:Ending)(w':World):Prop:=∃A c,e= .returned (.slice A n.length c)/\w'.ownsRow w.heap.size 9 1 (.slice A n.length c) n.length (strs n)/\ao w w'
theorem yn(A:Option Addr)(c:Nat)(n:List (List UInt8))(w:World)(hA:wA w A c n)(hn:n.length<=100000):
  Calls prog 95 #[.slice A n.length c] w (I9 n w):=by
 cases A with
 |none=>
  have h0:n=[]:=by
   cases n with
   |nil=>rfl
   |cons x n=>obtain⟨b,off,h,_⟩:=hA.1 ar;cases h
  subst h0;have EN:=Vo none 0 c;go_enter func95,ntmps95;go_wp2_with fail;go_ret;exact⟨none,0,I,World.ownsRow_nil _ _ _ _,Below.refl _ _⟩
 |some ad=>have RG:=J (fun w' (b:ao w w')=>(hA.G b).range);clear hA;have EN:=Vo (some ad) n.length c;have kb:Below w.heap.size w (w.alloc (.cells #[] 9)):=fZ;go_enter func95,ntmps95;go_wp2_with(at_builtin;go_must(refine Qg _ I (.tmp 5) (.tmp 6) I w.heap.size _ 0 [] I (WJ w _ (Nat.le_refl _)) kb.size (some ad) n.length c (strs n) I (RG.out _ kb) (ZA n) (ZB n) Y n.length Y ?_));intro A' c' w' ho hg;have HB:ao w w':=gX;go_wp2_with fail;go_ret;exact⟨A',c',I,by simpa using ho,HB⟩
def NU:RR:={RR.zero with Q:=41,cl:=1232}
def Ky(id:Int):Hd:={Hd.zero with id:=id,rd:=true}
def ug(q:Qn)(id:Int)(afh:Bool):tq:=⟨Ky id,[q],[],[],if afh then[NU]else[]⟩
def GP(lo:Nat)(w w':World):Prop:=w.heap.size<=w'.heap.size/\∀i,lo<=i->i<w.heap.size->w'.heap[i]?=w.heap[i]?
theorem GP.refl(lo:Nat)(w:World):GP lo w w:=⟨Nat.le_refl _,fun _ _ _=>rfl⟩
theorem GP.sD(h:GP lo w w')(Z:N w g t cs)(hg:lo<=g):N w' g t cs:=(h.2 g hg Z.lt).trans Z
theorem GP.own(h:GP lo w w')(hB:lo<=Hh){e:TypeId}{n:Nat}{xs:List Value}(ho:w.ownsRow Hh e s v n xs):w'.ownsRow Hh e s v n xs:=by
 refine⟨ho.1,?_⟩;rcases ho.2 with hn|⟨g,cap,cur,hv,Z,hh,rest⟩
 ·exact .inl hn
 ·exact .inr ⟨g,cap,cur,hv,Z,(h.2 g (Nat.le_trans hB Z) (NK hh)).trans hh,rest⟩
theorem xi{e:TypeId}{n:Nat}{xs:List Value}(ho:w.ownsRow Hh e s v n xs):w.ownsRow 0 e s v n xs:=by
 refine⟨ho.1,?_⟩;rcases ho.2 with hn|⟨g,cap,cur,hv,Z,hh,rest⟩
 ·exact .inl hn
 ·exact .inr ⟨g,cap,cur,hv,Nat.zero_le _,hh,rest⟩
theorem ZD{n:List (List UInt8)}(ho:w.ownsRow Hh 9 1 (.slice A n.length c) n.length (strs n))(U:n.length<=17592186044416)(F:∀l∈n,l.length<=140737488355328):wA w A c n:=by
 have hT:tw w (.slice A n.length c) n:=xi ho;obtain⟨A',c',h3,h4,h5⟩:=hT.form;injection h3 with e1 e2 e3;subst e1;subst e3;exact⟨h4,h5,U,F⟩
def aeG(m:tq)(w:World)(e:Ending)(w':World):Prop:=∃cs Aq Aa Au Ae cq ca cu ce,e= .returned (.agg cs.toArray)/\ao w w'/\∀w'',GP w.heap.size w' w''->Ct w'' cs m Aq Aa Au Ae cq ca cu ce
def WK:List Value:=uz rI rI rI NU
theorem afL(w:World):yJ w WK NU:=⟨none,0,none,0,none,0,I,⟨I,I⟩,wA.nil _,wA.nil _,wA.nil _,by simp[NU,RR.zero]⟩
theorem afM{w:World}{Hh gq gr:Nat}{A:Option Addr}{c:Nat}{q:Qn}{id:Int}{afh:Bool}(hq:N w gq 160 [.slice A q.name.length c,.int .i64 q.Q,.int .i64 q.cl])(hr:afh=true->N w gr 201 WK)(hN:wA w A c q.name):
  Ct w (xR (Ky id) (.slice (some ⟨gq,0,none⟩) 1 1) rI rI (if afh then .slice (some ⟨gr,0,none⟩) 1 1 else rI)) (ug q id afh) (some ⟨gq,0,none⟩) none none (if afh then some ⟨gr,0,none⟩else none) 1 0 0 (if afh then 1 else 0):=by
 refine⟨?_,fun _=>⟨gq,0,I,hq.lt,fun i hi=>?_⟩,fun h=>absurd h bq,fun h=>absurd h bq,?_,by simp[ug],by simp[ug],by simp[ug],?_⟩
 ·cases afh<;>rfl
 ·obtain rfl:i=0:=mf;exact⟨A,c,hq.range 0 3 ar,hN⟩
 ·
  cases afh with
  |false=>exact fun h=>absurd h bq
  |true=>
   refine fun _=>⟨gr,0,I,(hr I).lt,fun i hi=>?_⟩
   obtain rfl:i=0:=mf;refine⟨WK,?_,afL w⟩;have:=(hr I).range 0 33 br;rw[List.drop_zero,List.take_of_length_le br]at this;exact this
 ·cases afh<;>simp[ug]
theorem Ja(A:Option Addr)(c:Nat)(q:Qn)(id:Int)(afh:Bool)(w:World)(hA:wA w A c q.name)(hn:q.name.length<=100000):
  Calls prog 114 #[.agg #[.slice A q.name.length c,.int .i64 q.Q,.int .i64 q.cl],.int .i64 id,.bool afh] w (aeG (ug q id afh) w):=by
 have b0:Below w.heap.size w ((w.alloc (.cells #[.slice A q.name.length c,.int .i64 q.Q,.int .i64 q.cl] 160)).alloc (.cells #[.int .i64 0,.bool false,.int .i64 0,.bool false,.bool false,.bool false,.bool false,.bool false,.bool false,.int .i64 0,.slice none 0 0,.slice none 0 0,.slice none 0 0,.slice none 0 0] 169)):=gF;have B3':N ((w.alloc (.cells #[.slice A q.name.length c,.int .i64 q.Q,.int .i64 q.cl] 160)).alloc (.cells #[.int .i64 0,.bool false,.int .i64 0,.bool false,.bool false,.bool false,.bool false,.bool false,.bool false,.int .i64 0,.slice none 0 0,.slice none 0 0,.slice none 0 0,.slice none 0 0] 169)) w.heap.size 160 [.slice A q.name.length c,.int .i64 q.Q,.int .i64 q.cl]:=(N.new w 160 [.slice A q.name.length c,.int .i64 q.Q,.int .i64 q.cl]).alloc _;have B6':N ((w.alloc (.cells #[.slice A q.name.length c,.int .i64 q.Q,.int .i64 q.cl] 160)).alloc (.cells #[.int .i64 0,.bool false,.int .i64 0,.bool false,.bool false,.bool false,.bool false,.bool false,.bool false,.int .i64 0,.slice none 0 0,.slice none 0 0,.slice none 0 0,.slice none 0 0] 169)) (w.heap.size+1) 169 sV:=N.uE _ _ sV _ ar;have CL:=J (yn A c q.name _ (hA.G b0) hn);have hb1:=hA.2.2.1;have hb2:=hA.2.2.2;have AI:=J (fun(w:World) (gq gr:Nat) (A:Option Addr) (c:Nat)=> @afM w 0 gq gr A c q id afh);have ON:=J (fun(w:World) (Hh:Nat) (A:Option Addr) (c:Nat) (ho:w.ownsRow Hh 9 1 (.slice A q.name.length c) q.name.length (strs q.name))=>ZD ho hb1 hb2);clear hA hn hb1 hb2;generalize ug q id afh=M at*;generalize q.Q=Q,q.cl=cl,q.name=nm at*;go_enter func114,ntmps114;go_wp2_with fail;refine CL.out.mono ?_;rintro _ w3 ⟨A',c',rfl,ho,k3⟩;have B3:=B3'.G k3 B3'.lt;have B6:=B6'.G k3 B6'.lt;have b3:=rC b0 b0.size k3;have rH:w.heap.size<=((w.alloc (.cells #[.slice A nm.length c,.int .i64 Q,.int .i64 cl] 160)).alloc (.cells #[.int .i64 0,.bool false,.int .i64 0,.bool false,.bool false,.bool false,.bool false,.bool false,.bool false,.int .i64 0,.slice none 0 0,.slice none 0 0,.slice none 0 0,.slice none 0 0] 169)).heap.size:=b0.size;have hsz:w.heap.size+2<=w3.heap.size:=by have:=k3.size;simp at this;omega
 generalize((w.alloc (.cells #[.slice A nm.length c,.int .i64 Q,.int .i64 cl] 160)).alloc (.cells #[.int .i64 0,.bool false,.int .i64 0,.bool false,.bool false,.bool false,.bool false,.bool false,.bool false,.int .i64 0,.slice none 0 0,.slice none 0 0,.slice none 0 0,.slice none 0 0] 169)).heap.size=lo2 at*;clear CL B3' B6' b0 k3;go_wp2_with(refine rF (.store 24 (.tmp 11) (.tmp 10)) I (af I w.heap.size 0 (.slice A' nm.length c') B3 ar wS ?_));intro w4 B4 g4 s4;have B64:=B6.grown g4 ar;have ho4:=tY ho g4 B3 K;have b4:=rE b3 g4 b3.size (Nat.le_refl _);clear B3 B6 ho g4 b3;cases afh with
 |false=>
  go_wp2_with(first
   |(refine rF (.load 160 (.tmp 3)) rfl ?_;go_must(refine rG rfl _ _ rfl w.heap.size 0 rfl B4 3 ar _ underlying160 rfl xS [.slice A' nm.length c',.int .i64 Q,.int .i64 cl] rfl ?_))
   |(refine rF (.store 169 (.tmp 6) (.tmp 21)) rfl (ab rfl (w.heap.size+1) 0 (xR (Ky id) (.slice (some ⟨w3.heap.size,0,none⟩) 1 1) rI rI rI) (N.alloc (N.alloc B64 _) _) bu tn (Cs _ rfl rfl rfl rfl) ?_)))
  intro w5 B5 g5 s5;have Bq:N w5 w3.heap.size 160 [.slice A' nm.length c',.int .i64 Q,.int .i64 cl]:=by refine N.grown ((N.uE w4 160 [.slice A' nm.length c',.int .i64 Q,.int .i64 cl] _ s4.symm).alloc _) g5 aB
  have kk:∀o1 o2,Below w4.heap.size w4 ((w4.alloc o1).alloc o2):=gK;have ho5:=tY (sT ho4 (kk _ _)) g5 (N.alloc (N.alloc B64 _) _) K;have b5:=rE (rC b4 b4.size (kk _ _)) g5 bw Y;clear kk g5 B4 B64 ho4 b4;go_wp2_with fail;refine tx I (w.heap.size+1) I B5 _ underlying169 I tn I ?_;exact⟨_,_,_,_,_,_,_,_,_,I,b5,fun w'' hA=>AI.out w'' w3.heap.size 0 A' c' (hA.sD Bq Y) (fun h=>by cases h) (ON.out w'' lo2 A' c' (hA.own rH ho5))⟩
 |true=>
  go_wp2_with(first
   |(refine rF (.load 160 (.tmp 3)) rfl ?_;go_must(refine rG rfl _ _ rfl w.heap.size 0 rfl B4 3 ar _ underlying160 rfl xS [.slice A' nm.length c',.int .i64 Q,.int .i64 cl] rfl ?_))
   |(refine rF (.store 169 (.tmp 6) (.tmp 21)) rfl (ab rfl (w.heap.size+1) 0 (xR (Ky id) (.slice (some ⟨w3.heap.size,0,none⟩) 1 1) rI rI (.slice (some ⟨w3.heap.size+1+1,0,none⟩) 1 1)) (N.alloc (N.alloc (N.alloc B64 _) _) _) bu tn (Cs _ rfl rfl rfl rfl) ?_)))
  intro w5 B5 g5 s5;have Bq:N w5 w3.heap.size 160 [.slice A' nm.length c',.int .i64 Q,.int .i64 cl]:=by refine N.grown (((N.uE w4 160 [.slice A' nm.length c',.int .i64 Q,.int .i64 cl] _ s4.symm).alloc _).alloc _) g5 aB
  have Br:N w5 (w3.heap.size+1+1) 201 WK:=N.grown (N.uE _ 201 WK _ aB) g5 aB;have kk:∀o1 o2 o3,Below w4.heap.size w4 (((w4.alloc o1).alloc o2).alloc o3):=jd;have ho5:=tY (sT ho4 (kk _ _ _)) g5 (N.alloc (N.alloc (N.alloc B64 _) _) _) K;have b5:=rE (rC b4 b4.size (kk _ _ _)) g5 bw Y;clear kk g5 B4 B64 ho4 b4;go_wp2_with fail;refine tx I (w.heap.size+1) I B5 _ underlying169 I tn I ?_;exact⟨_,_,_,_,_,_,_,_,_,I,b5,fun w'' hA=>AI.out w'' w3.heap.size (w3.heap.size+1+1) A' c' (hA.sD Bq Y) (fun _=>hA.sD Br Y) (ON.out w'' lo2 A' c' (hA.own rH ho5))⟩
theorem LJ{m:List UInt8}{p:Nat}(h:vO m p= .error x):x≠0:=by
 rcases yW m p with⟨l,n,U,F,h3⟩|⟨e,U,F,h3⟩
 ·rw[F]at h;cases h
 ·rw[F]at h;injection h with h;subst h;exact h3.ne
theorem Jb{m:List UInt8}{p:Nat}(h:xh m p= .error x):x≠0:=by
 rcases zH m p with⟨l,n,U,F,h3⟩|⟨e,U,F,h3,h4⟩
 ·rw[F]at h;cases h
 ·rw[F]at h;injection h with h;subst h;exact h4.ne
theorem Az{m:List UInt8}{p:Nat}(h:uo m k p= .error x):x≠0:=by
 unfold uo at h;split at h
 ·exact oU
 ·cases h
theorem WL{m:List UInt8}{p:Nat}(h:vy m p= .error x):x≠0:=by
 unfold vy at h;cases U:xh m p with
 |error e=>rw[U]at h;injection h with h;subst h;exact Jb U
 |ok y=>
  rw[U]at h;simp only at h;split at h
  ·cases h
  ·exact oU
theorem acp{m:List UInt8}{a n:Nat}{Q cl:Int}(h:wN m a n Q cl= .error x):x≠0:=by
 unfold wN at h;split at h
 ·
  split at h
  ·cases h
  ·exact oU
 split at h
 ·
  split at h
  ·cases h
  ·exact oU
 split at h
 ·exact p9
 split at h
 ·
  split at h
  ·exact oU
  ·exact p9
 split at h
 ·
  split at h
  ·rename_i ht;injection h with h;subst h;exact Jb ht
  ·
   split at h
   ·rename_i ht;injection h with h;subst h;exact Jb ht
   ·
    split at h
    ·cases h
    ·exact oU
 ·cases h
theorem TV{m:List UInt8}{p:Nat}(h:uC m p= .error x):x≠0:=by
 unfold uC at h;cases U:vO m p with
 |error e=>rw[U]at h;injection h with h;subst h;exact LJ U
 |ok y=>
 rw[U]at h;simp only at h;cases F:uo m 2 y.2 with
 |error e=>rw[F]at h;injection h with h;subst h;exact Az F
 |ok z=>
 rw[F]at h;simp only at h;cases h3:uo m 2 z.2 with
 |error e=>rw[h3]at h;injection h with h;subst h;exact Az h3
 |ok u=>rw[h3]at h;cases h
theorem ZE{m:List UInt8}{p:Nat}(h:th m p= .error x):x≠0:=by
 unfold th at h;cases U:vO m p with
 |error e=>rw[U]at h;injection h with h;subst h;exact LJ U
 |ok y=>
 rw[U]at h;simp only at h;cases F:uo m 2 y.2 with
 |error e=>rw[F]at h;injection h with h;subst h;exact Az F
 |ok z=>
 rw[F]at h;simp only at h;cases h3:uo m 2 z.2 with
 |error e=>rw[h3]at h;injection h with h;subst h;exact Az h3
 |ok u=>
 rw[h3]at h;simp only at h;cases h4:uo m 4 u.2 with
 |error e=>rw[h4]at h;injection h with h;subst h;exact Az h4
 |ok v=>
 rw[h4]at h;simp only at h;cases h5:uo m 2 v.2 with
 |error e=>rw[h5]at h;injection h with h;subst h;exact Az h5
 |ok t=>
 rw[h5]at h;simp only at h;split at h
 ·exact oU
 ·
  split at h
  ·rename_i hg;injection h with h;subst h;exact acp hg
  ·cases h
theorem EI{α:Type}{g:Nat->Except Int (α×Nat)}(hg:∀p x,g p= .error x->x≠0):∀(k p:Nat) (x:Int),sF g k p= .error x->x≠0
 |0,p,x,h=>by unfold sF at h;cases h
 |k+1,p,x,h=>by
  unfold sF at h;cases U:g p with
  |error e=>rw[U]at h;injection h with h;subst h;exact hg _ _ U
  |ok y=>
  rw[U]at h;simp only at h;cases F:sF g k y.2 with
  |error e=>rw[F]at h;injection h with h;subst h;exact EI hg _ _ _ F
  |ok z=>rw[F]at h;cases h
theorem acq{m:List UInt8}(h:vZ m= .error x):x≠0:=by
 have hq:=fun p x=>TV (m:=m) (p:=p) (x:=x)
 have hr:=fun p x=>ZE (m:=m) (p:=p) (x:=x)
 unfold vZ at h;split at h
 ·exact oU
 split at h
 ·exact oU
 cases U:sF (uC m) (xp m 4) 12 with
 |error e=>rw[U]at h;injection h with h;subst h;exact EI hq _ _ _ U
 |ok y=>
 rw[U]at h;simp only at h;cases F:sF (th m) (xp m 6) y.2 with
 |error e=>rw[F]at h;injection h with h;subst h;exact EI hr _ _ _ F
 |ok z=>
 rw[F]at h;simp only at h;cases h3:sF (th m) (xp m 8) z.2 with
 |error e=>rw[h3]at h;injection h with h;subst h;exact EI hr _ _ _ h3
 |ok u=>
 rw[h3]at h;simp only at h;cases h4:sF (th m) (xp m 10) u.2 with
 |error e=>rw[h4]at h;injection h with h;subst h;exact EI hr _ _ _ h4
 |ok v=>
 rw[h4]at h;simp only at h;split at h
 ·exact oU
 ·cases h
end Go.Proofs.YtakkipnmpmobbaaGreat
