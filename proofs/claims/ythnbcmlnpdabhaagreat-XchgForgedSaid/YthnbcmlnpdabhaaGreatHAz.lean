/-
  What octets say,plainly:names,numbers,records' data,questions,records,messages.
-/
import Derived.Test.YthnbcmlnpdabhaaGreatHUz
import Derived.Test.YthnbcmlnpdabhaaGreatRd10z
namespace Go.Proofs.YthnbcmlnpdabhaaGreat
open _root_.Go.Proofs.Tryz
set_option maxHeartbeats 8000000
set_option linter.unusedVariables false
set_option linter.unusedSimpArgs false
variable {ops:Array Oper} {rest:List Oper} {o:Oper} {w w':World} {B s c g lo:Nat} {v:Value} {A:Option Addr} {t:TypeId} {cs:List Value} {x:Int}
def xF(m:List UInt8)(p:Nat):Except Int (List (List UInt8)×Nat):=match Bg m p with
 | .ok l n=>.ok (l,n)
 | .err e=>.error e
 | .go _=>.error 0
def y6(m:List UInt8)(p:Nat):Except Int (List (List UInt8)×Nat):=match xF m p with
 | .ok x=>.ok x
 | .error e=>.error (if e=1 then 5 else e)
def vH(m:List UInt8)(k p:Nat):Except Int (Nat×Nat):=if m.length<p+k then .error 1 else .ok (uN ((m.take (p+k)).drop p),p+k)
def wY(s:List UInt8)(p:Nat):Except Int (List (List UInt8)):=match y6 s p with
 | .error e=>.error e
 | .ok (l,q)=>if q=s.length then .ok l else .error 5
def zh(s:List UInt8)(p:Nat):List Int:=[(uN ((s.drop p).take 4):Int),(uN ((s.drop (p+4)).take 4):Int),(uN ((s.drop (p+8)).take 4):Int),(uN ((s.drop (p+12)).take 4):Int),(uN ((s.drop (p+16)).take 4):Int)]
def yn(m:List UInt8)(a n:Nat)(E N:Int):Except Int RR:=
 if uo E N=1 then(if n=4 then .ok {RR.zero with ad:=⟨4,(m.take (a+n)).drop a++List.replicate 12 0,0⟩}else .error 5)
 else if uo E N=28 then(if n=16 then .ok {RR.zero with ad:=⟨6,(m.take (a+n)).drop a,0⟩}else .error 5)
 else if uo E N=5\/uo E N=12 then(match wY (m.take (a+n)) a with
  | .error e=>.error e
  | .ok l=>.ok {RR.zero with tg:=l})
 else if uo E N=33 then(if n<6 then .error 5 else match wY (m.take (a+n)) (a+6)with
  | .error e=>.error e
  | .ok l=>.ok {RR.zero with pri:=uN (((m.take (a+n)).drop a).take 2),we:=uN ((((m.take (a+n)).drop a).drop 2).take 2),po:=uN ((((m.take (a+n)).drop a).drop 4).take 2),tg:=l})
 else if uo E N=6 then(match y6 (m.take (a+n)) a with
  | .error e=>.error e
  | .ok (l,p)=>match y6 (m.take (a+n)) p with
   | .error e=>.error e
   | .ok (l',q)=>if q+20=(m.take (a+n)).length then .ok {RR.zero with tg:=l,ml:=l',h1:=zh (m.take (a+n)) q}else .error 5)
 else .ok {RR.zero with raw:=(m.take (a+n)).drop a}
def vE(m:List UInt8)(p:Nat):Except Int (Qn×Nat):=match xF m p with
 | .error e=>.error e
 | .ok (n,p)=>match vH m 2 p with
  | .error e=>.error e
  | .ok (E,p)=>match vH m 2 p with
   | .error e=>.error e
   | .ok (N,p)=>.ok (⟨n,E,N⟩,p)
def uY(m:List UInt8)(p:Nat):Except Int (RR×Nat):=match xF m p with
 | .error e=>.error e
 | .ok (n,p)=>match vH m 2 p with
  | .error e=>.error e
  | .ok (E,p)=>match vH m 2 p with
   | .error e=>.error e
   | .ok (N,p)=>match vH m 4 p with
    | .error e=>.error e
    | .ok (ak,p)=>match vH m 2 p with
     | .error e=>.error e
     | .ok (sz,p)=>if m.length<p+sz then .error 1 else match yn m p sz E N with
      | .error e=>.error e
      | .ok r=>.ok ({r with name:=n,E:=E,N:=N,ak:=ak},p+sz)
def uJ{α:Type}(f:Nat->Except Int (α×Nat)):Nat->Nat->Except Int (List α×Nat)
 |0,p=>.ok ([],p)
 |k+1,p=>match f p with
  | .error e=>.error e
  | .ok (x,p)=>match uJ f k p with
   | .error e=>.error e
   | .ok (l,p)=>.ok (x::l,p)
def xy{α:Type}(acc:List α)(o:Except Int (List α×Nat)):Except Int (List α×Nat):=match o with
 | .error e=>.error e
 | .ok (l,p)=>.ok (acc++l,p)
theorem Fk{α:Type}{f:Nat->Except Int (α×Nat)}{acc:List α}{k p p':Nat}{x:α}(h:f p= .ok (x,p')):xy acc (uJ f (k+1) p)=xy (acc++[x]) (uJ f k p'):=by
 simp only[uJ,h];cases uJ f k p' with
 |error e=>rfl
 |ok y=>obtain⟨l,q⟩:=y;simp[xy]
theorem BH{α:Type}{f:Nat->Except Int (α×Nat)}{acc:List α}{k p:Nat}{e:Int}(h:f p= .error e):xy acc (uJ f (k+1) p)= .error e:=by
 simp only[uJ,h,xy]
theorem IB{α:Type}{f:Nat->Except Int (α×Nat)}{acc:List α}{p:Nat}:xy acc (uJ f 0 p)= .ok (acc,p):=by simp[uJ,xy]
theorem DO{α:Type}(o:Except Int (List α×Nat)):xy [] o=o:=by
 cases o with
 |error e=>rfl
 |ok y=>obtain⟨l,q⟩:=y;simp[xy]
def xo(m:List UInt8):Except Int vo:=
 if 65535<m.length then .error 3
 else if m.length<12 then .error 1
 else match uJ (vE m) (xO m 4) 12 with
  | .error e=>.error e
  | .ok (q,p)=>match uJ (uY m) (xO m 6) p with
   | .error e=>.error e
   | .ok (a,p)=>match uJ (uY m) (xO m 8) p with
    | .error e=>.error e
    | .ok (u,p)=>match uJ (uY m) (xO m 10) p with
     | .error e=>.error e
     | .ok (x,p)=>if p<m.length then .error 2 else .ok ⟨Eg (xO m 0) (xO m 2),q,a,u,x⟩
def Wl(e:Int):Prop:=e=1\/e=3\/e=4\/e=7\/e=9
theorem Wl.ne{e:Int}(h:Wl e):e≠0:=by unfold Wl at h;omega
theorem zJ(m:List UInt8)(p:Nat):(∃l n,Bg m p= .ok l n/\xF m p= .ok (l,n)/\n<=m.length/\yv l/\1+uQ l<=255)\/(∃e,Bg m p= .err e/\xF m p= .error e/\Wl e):=by
 have:=Yz m p;unfold xF;cases h:Bg m (p:Int)with
 |ok l n=>rw[h]at this;exact .inl ⟨l,n,J,J,this.2.2,this.1,this.2.1⟩
 |err e=>rw[h]at this;exact .inr ⟨e,J,J,this⟩
 |go s=>rw[h]at this;exact False.elim this
def TN(e:Int):Prop:=e=5\/e=3\/e=4\/e=7\/e=9
theorem TN.ne{e:Int}(h:TN e):e≠0:=by unfold TN at h;omega
theorem TN.nz{e:Int}(h:TN e):(e !=0)=true:=by simp;exact h.ne
theorem yk(m:List UInt8)(p:Nat):(∃l n,Bg m p= .ok l n/\y6 m p= .ok (l,n)/\n<=m.length/\yv l/\1+uQ l<=255)\/(∃e,Bg m p= .err e/\y6 m p= .error (if e=1 then 5 else e)/\Wl e/\TN (if e=1 then 5 else e)):=by
 unfold y6;rcases zJ m p with⟨l,n,U,X,h3⟩|⟨e,U,X,h3⟩
 ·exact .inl ⟨l,n,U,by rw[X],h3⟩
 ·refine .inr ⟨e,U,by rw[X],h3,?_⟩;unfold Wl at h3;unfold TN;split<;>omega
open Go.RowKit
set_option maxRecDepth 100000
def Rows(w:World):List (List Value)->List RR->Prop
 |[],[]=>True
 |cs::css,r::l=>xd w cs r/\Rows w css l
 |_,_=>False
theorem Rows.len{w:World}:∀{css:List (List Value)} {l:List RR},Rows w css l->css.flatten.length=l.length*33
 |[],[],_=>rfl
 |cs::css,r::l,h=>by
  have:=h.2.len;have:=h.1.len;simp only[List.flatten_cons,List.length_append,List.length_cons];omega
theorem Rows.one{w:World}:∀{css:List (List Value)} {l:List RR},Rows w css l->∀v∈css.flatten,v.oneCell'=true
 |[],[],_=>by simp
 |cs::css,r::l,h=>by
  intro v hv;simp only[List.flatten_cons,List.mem_append]at hv;rcases hv with hv|hv
  ·exact h.1.one v hv
  ·exact h.2.one v hv
theorem Rows.CY{w:World}:∀{css dss:List (List Value)} {l k:List RR},Rows w css l->Rows w dss k->Rows w (css++dss) (l++k)
 |[],_,[],_,_,h'=>h'
 |cs::css,dss,r::l,k,h,h'=>⟨h.1,Rows.CY h.2 h'⟩
theorem Rows.get{w:World}:∀{css:List (List Value)} {l:List RR},Rows w css l->∀(rest:List Value) (i:Nat) (hi:i<l.length),∃cs,((css.flatten++rest).drop (i*33)).take 33=cs/\xd w cs l[i]
 |[],[],_,_,i,hi=>absurd hi ap
 |cs::css,r::l,h,rest,0,hi=>by
  refine⟨cs,?_,h.1⟩;simp only[List.flatten_cons,Nat.zero_mul,List.drop_zero,List.append_assoc];exact List.take_left' h.1.len
 |cs::css,r::l,h,rest,i+1,hi=>by
  obtain⟨ck,U,X⟩:=Rows.get h.2 rest i aF;refine⟨ck,?_,fW⟩;rw[<-U];simp only[List.flatten_cons,List.append_assoc];rw[show(i+1)*33=cs.length+i*33 by rw[h.1.len];omega,<-List.drop_drop,List.drop_left]
theorem Vh{w w0:World}{b:Nat}:∀(l:List RR) (off:Nat),(∀i (hi:i<l.length),∃cs,w.rangeAt b (off+i*33) cs/\xd w0 cs l[i])->∃css,Rows w0 css l/\w.rangeAt b off css.flatten
 |[],off,_=>⟨[],trivial,fun j v hv=>by simp at hv⟩
 |r::l,off,h=>by
  obtain⟨cs,U,X⟩:=h 0 ap;obtain⟨css,h3,h4⟩:=Vh l (off+33) (fun i hi=>by
   obtain⟨cs,h5,h6⟩:=h (i+1) aF;refine⟨cs,?_,by simpa using h6⟩;rwa[show off+(i+1)*33=off+33+i*33 by omega]at h5)
  refine⟨cs::css,⟨fW,h3⟩,fun j v hv=>?_⟩;simp only[List.flatten_cons]at hv;have hl:cs.length=33:=X.len;by_cases hj:j<cs.length
  ·rw[List.getElem?_append_left hj]at hv;have:=U j v hv;simpa using this
  ·rw[List.getElem?_append_right I]at hv;have:=h4 (j-cs.length) v hv;rwa[show off+33+(j-cs.length)=off+j by omega]at this
theorem Vi:(prog.info? 119).map (fun i=>(i.zero,i.size,i.bytes))=some (some (.agg vG.toArray),33,208):=by kernel_rfl
theorem YV(w:World)(E:TypeId)(B:Nat)(v:Value)(n:Nat)(xs:List Value)(adV:w.ownsRow B 119 33 v n xs)(hB:B<=w.heap.size)(A:Option Addr)(m c:Nat)(news:List Value)(hn:0<m->∃b off,A=some ⟨b,off,none⟩/\w.rangeAt b off news)(hl:news.length=m*33)(U:∀u∈news,u.oneCell'=true)(F:n+m<=300000):
  ∃v' w',(Builtin.append_ #[48,48] E #[v,.slice A m c]).run prog w= .ok v' w'/\w'.ownsRow B 119 33 v' (n+m) (xs++news)/\w.grownBy w' v.ownBlock:=by
 obtain⟨i,hi,hz,adT,hby⟩:=info_parts Vi;by_cases hm:0<m
 ·
  obtain⟨b,off,rfl,hr⟩:=hn hm;obtain⟨v',w',hr,X,h3,_,h5⟩:=run_append_own_at (P:=prog) w B 48 E 119 i _ 33 208 underlying48 hi hz adT hby (by rw[show(Value.agg vG.toArray).cells=vG.toArray from J];simp[Fa]) I v n xs adV ⟨b,off,none⟩ m c news hl (fun j u hu=>by
   have agp:(⟨b,off,none⟩:Addr).add j=⟨b,off+j,none⟩:=gM;rw[agp];exact hr j u hu) U aJ I hB
  exact sR
 ·
  obtain rfl:m=0:=I;have akW:news=[]:=gV;subst akW;have hv:∃A' c',v= .slice A' n c'/\n<=c':=by exact pQ
  obtain⟨A',c',rfl,agw⟩:=hv;refine⟨.slice A' n c',w,?_,fX,World.grownBy.refl _ _⟩;cases A with
  |none=>cases A'<;>simp[Builtin.append_,run_underlying underlying48,sizeOf,typeInfo,hi,adT,Builtin.lenOf,agw,Builtin.firstCells,storeCells]
  |some ad=>have hl0:(loadCells ad 0).run prog w= .ok #[] w:=rfl;cases A'<;>simp[hl0,Builtin.append_,run_underlying underlying48,sizeOf,typeInfo,hi,adT,Builtin.lenOf,agw,Builtin.firstCells,storeCells]
theorem AG(w:World){a:Act}{Q:Exit->Act->World->Prop}(hgd:o.guard=none)(s x:Operand)
  (ho:o.op= .call {callee:=.builtin .append,args:= #[s,x],argTypes:= #[48,48]})
  (B:Nat) (v:Value) (n:Nat) (xs:List Value) (hs:a.eval s=v) (adV:w.ownsRow B 119 33 v n xs) (hB:B<=w.heap.size) (A:Option Addr) (m c:Nat) (news:List Value) (hx:a.eval x= .slice A m c)
  (hn:0<m->∃b off,A=some ⟨b,off,none⟩/\w.rangeAt b off news) (hl:news.length=m*33) (U:∀u∈news,u.oneCell'=true) (F:n+m<=300000) (k:Nat) (O:k=n+m)
  (h:∀A' c' w',w'.ownsRow B 119 33 (.slice A' k c') k (xs++news)->w.grownBy w' v.ownBlock->wpList prog ops Q rest (a.put o.dst (.slice A' k c')) w'):
  wpList prog ops Q (o::rest) a w:=by
 subst O;refine wpList_plain hgd fun hb hK=>?_
 obtain⟨v',w',hr,X,h3⟩:=YV w o.type B v n xs adV hB A m c news hn hl U F;exact pg
theorem Ht{e:TypeId}{n:Nat}{xs:List Value}(h:w.ownsRow B e s v n xs):∀k,v.ownBlock=some k->B<=k:=by
 intro k O;rcases h.2 with⟨rfl,rfl⟩|⟨g',cap,cur,rfl,hB,_⟩
 ·simp[Value.ownBlock]at O
 ·have:g'=k:=iE;omega
def YW(w0 w:World)(A:Option Addr)(l:List RR):Prop:=0<l.length->∃g cur,A=some ⟨g,0,none⟩/\Z w g 119 cur/\l.length*33<=cur.length/\∀i (hi:i<l.length),∃cs,(cur.drop (i*33)).take 33=cs/\xd w0 cs l[i]
def ac1(w0:World)(l:List RR)(w:World)(e:Ending)(w':World):Prop:=∃A c,e= .returned (.slice A l.length c)/\YW w0 w' A l/\al w w'
theorem aba{w0:World}{css:List (List Value)}{l:List RR}(adV:w.ownsRow B 119 33 (.slice A l.length c) l.length css.flatten)(hr:Rows w0 css l):YW w0 w A l:=by
 intro hp;rcases adV.2 with⟨_,h0⟩|⟨g,cap,cur,hv,hB,hg,hc,hm,hs,ht⟩
 ·omega
 ·
  injection hv with U X h3;have hcl:cur.toList.length=cur.size:=ap;have htk:cur.toList=css.flatten++cur.toList.drop (l.length*33):=mD;refine⟨g,cur.toList,U,hg,?_,fun i hi=>?_⟩
  ·rw[hcl,hs];exact Nat.mul_le_mul_right _ hc
  ·rw[htk];exact hr.get _ i hi
theorem KW.rows{l:List RR}(h:KW w A l):∃css,Rows w css l/\(0<l.length->∃b off,A=some ⟨b,off,none⟩/\b<w.heap.size/\w.rangeAt b off css.flatten):=by
 by_cases hp:0<l.length
 ·obtain⟨b,off,U,X,h3⟩:=h hp;obtain⟨css,h4,h5⟩:=Vh l off h3;exact⟨css,h4,fun _=>⟨b,off,U,X,h5⟩⟩
 ·obtain rfl:l=[]:=gV;exact⟨[],trivial,fun h=>absurd h hp⟩
theorem Vj(cs:List Value)(m:vo)(Aq Aa Au Ae:Option Addr)(cq ca cu ce:Nat)(w0 w:World)(h:yZ w0 cs m Aq Aa Au Ae cq ca cu ce)(hb0:al w0 w)(ha:m.an.length<=65535)(hu:m.au.length<=65535)(he:m.ex.length<=65535):
  Calls prog 113 #[.agg cs.toArray] w (ac1 w0 m.BD w):=by
 have hcs:=h.hcs;have L11:cs[11]?=some (.slice Aa m.an.length ca):=bI;have L12:cs[12]?=some (.slice Au m.au.length cu):=bI;have L13:cs[13]?=some (.slice Ae m.ex.length ce):=bI;obtain⟨sa,ra,qa⟩:=h.ha.rows;obtain⟨su,ru,qu⟩:=h.hu.rows;obtain⟨se,re,qe⟩:=h.he.rows;have RA:=Y ((ra.CY ru).CY re);have la:=ra.len;have lu:=ru.len;have le:=re.len;have oa:=Y ra.one;have ou:=Y ru.one;have oe:=Y re.one;have QA:=Y (fun(w':World) (b:al w0 w')=>(fun hp=>by obtain⟨b1,o1,e1,e2,e3⟩:=qa hp;exact⟨b1,o1,e1,tX e3 b e2⟩:0<m.an.length->∃b off,Aa=some ⟨b,off,none⟩/\w'.rangeAt b off sa.flatten));have QU:=Y (fun(w':World) (b:al w0 w')=>(fun hp=>by obtain⟨b1,o1,e1,e2,e3⟩:=qu hp;exact⟨b1,o1,e1,tX e3 b e2⟩:0<m.au.length->∃b off,Au=some ⟨b,off,none⟩/\w'.rangeAt b off su.flatten));have QE:=Y (fun(w':World) (b:al w0 w')=>(fun hp=>by obtain⟨b1,o1,e1,e2,e3⟩:=qe hp;exact⟨b1,o1,e1,tX e3 b e2⟩:0<m.ex.length->∃b off,Ae=some ⟨b,off,none⟩/\w'.rangeAt b off se.flatten));have hlen:m.BD.length=m.an.length+m.au.length+m.ex.length:=lH;replace RA:Hid (Rows w0 (sa++su++se) m.BD):=RA;have hfl:(sa++su++se).flatten=sa.flatten++su.flatten++se.flatten:=ap;clear h hcs qa qu qe ra ru re;generalize m.BD=R,m.an.length=na at*;generalize m.au.length=nu,m.ex.length=ne at*;have B0:=Z.new w 50 cs;have HB0:Below w.heap.size w (w.alloc (.cells cs.toArray 50)):=gj;have c11:=B0.K 11 L11;go_enter func113,ntmps113;go_wp2_with(at_builtin;go_must(refine AG _ J (.tmp 4) (.tmp 6) J w.heap.size (.slice none 0 0) 0 [] J (World.ownsRow_nil _ _ _ _) HB0.size Aa na ca sa.flatten J (QA.out _ (tL hb0 hb0.size HB0)) la oa.out I na I ?_));intro A1 c1 w1 o1 g1;have B1:=B0.grown g1 (by simp[Value.ownBlock]);have HB1:al w w1:=HB0.grown g1 HB0.size (fun k O=>by simp[Value.ownBlock]at O);clear c11 B0 g1 HB0;have c12:=B1.K 12 L12;go_wp2_with(at_builtin;go_must(refine AG _ J (.tmp 8) (.tmp 10) J w.heap.size _ na _ J o1 HB1.size Au nu cu su.flatten J (QU.out _ (tL hb0 hb0.size HB1)) lu ou.out I (na+nu) I ?_));intro A2 c2 w2 o2 g2;have B2:=vD B1 o1 ax g2;have hk:al w w2:=HB1.grown g2 HB1.size (Ht o1);clear c12 B1 g2 HB1 o1;have c13:=B2.K 13 L13;go_wp2_with(at_builtin;go_must(refine AG _ J (.tmp 12) (.tmp 14) J w.heap.size _ (na+nu) _ J o2 hk.size Ae ne ce se.flatten J (QE.out _ (tL hb0 hb0.size hk)) le oe.out I R.length I ?_));intro A3 c3 w3 o3 g3;have HB3:al w w3:=hk.grown g3 hk.size (Ht o2);have o3':w3.ownsRow w.heap.size 119 33 (.slice A3 R.length c3) R.length (sa++su++se).flatten:=by rw[hfl,hlen];simpa using o3
 have RR3:=aba o3' RA.out;clear c13 B2 g3 hk o2 o3 o3';go_wp2_with fail;go_ret;exact⟨A3,c3,by rw[hlen];rfl,RR3,HB3⟩
def zK(w:World)(v:Value)(n:List (List UInt8)):Prop:=wh w v n/\tY n=0
def ug(w w':World):Prop:=∀v n,wh w v n->wh w' v n
theorem ug.refl(w:World):ug w w:=fun _ _ h=>h
theorem ug.trans{a b c:World}(h:ug a b)(k:ug b c):ug a c:=fun v n x=>k v n (h v n x)
theorem ug.G(h:al w w'):ug w w':=fun _ _ x=>x.G h
theorem ug.uG{k:Nat}(hg:w.grownBy w' (some k))(O:Z w k t cs)(ht:t≠9):ug w w':=fun _ _ x=>x.grown hg O ht
theorem ug.own{e:TypeId}{n:Nat}{xs:List Value}(h:w.ownsRow B e s v n xs)(hne:9≠e)(hg:w.grownBy w' v.ownBlock):ug w w':=fun _ _ x=>Hb x h hne hg
theorem zK.ue{n:List (List UInt8)}(h:zK w v n)(k:ug w w'):zK w' v n:=⟨k _ _ h.1,h.2⟩
theorem zK.nil(w:World):zK w tS []:=⟨wh.nil w,J⟩
theorem zK.form{n:List (List UInt8)}(h:zK w v n):∃A c,v= .slice A n.length c/\xj w A c n:=by
 obtain⟨A,c,U,X,h3⟩:=h.1.form;obtain⟨h4,h5⟩:=wK h.2;have h6:=zE n;exact⟨A,c,U,X,h3,I,fun l hl=>by have:=h4 l hl;omega⟩
theorem zK.one{n:List (List UInt8)}(h:zK w v n):v.oneCell'=true:=by obtain⟨A,c,rfl,_⟩:=h.form;rfl
theorem zK.cells{n:List (List UInt8)}(h:zK w v n):v.cells= #[v]:=by obtain⟨A,c,rfl,_⟩:=h.form;rfl
theorem zK.mk'{n:List (List UInt8)}(h:wh w v n)(g:yv n)(s:1+uQ n<=255):zK w v n:=⟨h,Ko g s⟩
def wR(w:World)(cs:List Value)(r:RR):Prop:=∃vn vt vm,cs=vy vn vt vm r/\r.wf/\zK w vn r.name/\zK w vt r.tg/\zK w vm r.ml/\r.raw.length<=140737488355328
theorem wR.ue{r:RR}(h:wR w cs r)(k:ug w w'):wR w' cs r:=by
 obtain⟨vn,vt,vm,U,X,h3,h4,h5,h6⟩:=h;exact⟨vn,vt,vm,U,X,h3.ue k,h4.ue k,h5.ue k,h6⟩
theorem wR.is{r:RR}(h:wR w cs r):xd w cs r:=by
 obtain⟨vn,vt,vm,U,X,h3,h4,h5,h6⟩:=h;obtain⟨An,cn,rfl,n3⟩:=h3.form;obtain⟨At,ct,rfl,n4⟩:=h4.form;obtain⟨Am,cm,rfl,n5⟩:=h5.form;exact⟨An,cn,At,ct,Am,cm,U,X,n3,n4,n5,h6⟩
theorem wR.zero(w:World):wR w vG RR.zero:=⟨tS,tS,tS,J,⟨J,J⟩,zK.nil w,zK.nil w,zK.nil w,by simp[RR.zero]⟩
def JN(w:World)(cs:List Value)(q:Qn):Prop:=∃vn,cs=qC vn q/\zK w vn q.name
theorem JN.ue{q:Qn}(h:JN w cs q)(k:ug w w'):JN w' cs q:=by obtain⟨vn,U,X⟩:=h;exact⟨vn,U,X.ue k⟩
theorem JN.len{q:Qn}(h:JN w cs q):cs.length=3:=by obtain⟨vn,rfl,_⟩:=h;rfl
theorem JN.one{q:Qn}(h:JN w cs q):∀v∈cs,v.oneCell'=true:=by
 obtain⟨vn,rfl,X⟩:=h;intro v hv;simp only[qC,List.mem_cons,List.not_mem_nil,or_false]at hv;rcases hv with rfl|rfl|rfl
 ·exact X.one
 ·rfl
 ·rfl
def Bh{α:Type}(R:List Value->α->Prop):List (List Value)->List α->Prop
 |[],[]=>True
 |cs::css,r::l=>R cs r/\Bh R css l
 |_,_=>False
section
variable {α:Type} {R R':List Value->α->Prop}
theorem Bh.Wm{cs:List Value}{x:α}(hx:R cs x):∀{css:List (List Value)} {l:List α},Bh R css l->Bh R (css++[cs]) (l++[x])
 |[],[],_=>⟨hx,trivial⟩
 |_::_,_::_,h=>⟨h.1,Bh.Wm hx h.2⟩
theorem Bh.mono(hm:∀cs x,R cs x->R' cs x):∀{css:List (List Value)} {l:List α},Bh R css l->Bh R' css l
 |[],[],_=>trivial
 |_::_,_::_,h=>⟨hm _ _ h.1,Bh.mono hm h.2⟩
theorem Bh.get{k:Nat}(O:∀cs x,R cs x->cs.length=k):∀{css:List (List Value)} {l:List α},Bh R css l->∀(rest:List Value) (i:Nat) (hi:i<l.length),∃cs,((css.flatten++rest).drop (i*k)).take k=cs/\R cs l[i]
 |[],[],_,_,i,hi=>absurd hi ap
 |cs::css,r::l,h,rest,0,hi=>by
  refine⟨cs,?_,h.1⟩;simp only[List.flatten_cons,Nat.zero_mul,List.drop_zero,List.append_assoc];exact List.take_left' (O _ _ h.1)
 |cs::css,r::l,h,rest,i+1,hi=>by
  obtain⟨ck,U,X⟩:=Bh.get O h.2 rest i aF;refine⟨ck,?_,fW⟩;rw[<-U];simp only[List.flatten_cons,List.append_assoc];rw[show(i+1)*k=cs.length+i*k by rw[O _ _ h.1,Nat.succ_mul,Nat.add_comm],<-List.drop_drop,List.drop_left]
def uy(w:World)(B:Nat)(e:TypeId)(k:Nat)(R:List Value->α->Prop)(v:Value)(l:List α):Prop:=∃css,w.ownsRow B e k v l.length css.flatten/\Bh R css l
theorem uy.form{e:TypeId}{k:Nat}{l:List α}(h:uy w B e k R v l):∃A c,v= .slice A l.length c:=by
 obtain⟨css,U,_⟩:=h;exact yg U
theorem uy.ud{e:TypeId}{k:Nat}{l:List α}(O:∀cs x,R cs x->cs.length=k)(h:uy w B e k R (.slice A l.length c) l)(hp:0<l.length):
  ∃g,A=some ⟨g,0,none⟩/\g<w.heap.size/\∀i (hi:i<l.length),∃cs,w.rangeAt g (0+i*k) cs/\R cs l[i]:=by
 obtain⟨css,adV,hr⟩:=h;rcases adV.2 with⟨_,h0⟩|⟨g,cap,cur,hv,hB,hg,hc,hm,hs,ht⟩
 ·omega
 ·
  injection hv with U X h3;have hcl:cur.toList.length=cur.size:=ap;have htk:cur.toList=css.flatten++cur.toList.drop (l.length*k):=mD;have F:Z w g e cur.toList:=hg;have hle:l.length*k<=cur.toList.length:=by rw[hcl,hs];exact Nat.mul_le_mul_right _ hc
  refine⟨g,U,F.lt,fun i hi=>?_⟩;obtain⟨cs,e1,e2⟩:=hr.get O (cur.toList.drop (l.length*k)) i hi;rw[<-htk]at e1;refine⟨cs,?_,e2⟩;rw[<-e1,Nat.zero_add];have h4:(i+1)*k<=l.length*k:=Nat.mul_le_mul_right _ hi;rw[Nat.succ_mul]at h4;exact F.range (i*k) k I
end
abbrev uD(w:World)(B:Nat)(v:Value)(l:List RR):Prop:=uy w B 119 33 (wR w) v l
abbrev wS(w:World)(B:Nat)(v:Value)(l:List Qn):Prop:=uy w B 28 3 (JN w) v l
theorem wR.len{r:RR}(h:wR w cs r):cs.length=33:=h.is.len
theorem wR.one{r:RR}(h:wR w cs r):∀v∈cs,v.oneCell'=true:=h.is.one
theorem uD.nil(w:World)(B:Nat):uD w B (.slice none 0 0) []:=⟨[],World.ownsRow_nil _ _ _ _,trivial⟩
theorem wS.nil(w:World)(B:Nat):wS w B (.slice none 0 0) []:=⟨[],World.ownsRow_nil _ _ _ _,trivial⟩
theorem uD.rr{l:List RR}(h:uD w B (.slice A l.length c) l):KW w A l:=by
 intro hp;obtain⟨g,U,X,h3⟩:=h.ud (fun _ _ h=>h.len) hp;refine⟨g,0,U,X,fun i hi=>?_⟩;obtain⟨cs,h4,h5⟩:=h3 i hi;exact⟨cs,h4,h5.is⟩
theorem wS.qq{l:List Qn}(h:wS w B (.slice A l.length c) l):QsR w A l:=by
 intro hp;obtain⟨g,U,X,h3⟩:=h.ud (fun _ _ h=>h.len) hp;refine⟨g,0,U,X,fun i hi=>?_⟩;obtain⟨cs,h4,vn,rfl,h5⟩:=h3 i hi;obtain⟨An,cn,rfl,h6⟩:=h5.form;exact⟨An,cn,h4,h6⟩
theorem uy.ue{α:Type}{e:TypeId}{k:Nat}{R R':List Value->α->Prop}{l:List α}(h:uy w B e k R v l)(hr:∀xs,w.ownsRow B e k v l.length xs->w'.ownsRow B e k v l.length xs)(hm:∀cs x,R cs x->R' cs x):uy w' B e k R' v l:=by
 obtain⟨css,U,X⟩:=h;exact⟨css,hr _ U,X.mono hm⟩
theorem uD.G{l:List RR}(h:uD w B v l)(F:al w w'):uD w' B v l:=h.ue (fun _ x=>vQ x F) (fun _ _ x=>x.ue (ug.G F))
theorem wS.G{l:List Qn}(h:wS w B v l)(F:al w w'):wS w' B v l:=h.ue (fun _ x=>vQ x F) (fun _ _ x=>x.ue (ug.G F))
theorem Bi{e:TypeId}{n:Nat}{xs:List Value}(h:w.ownsRow B e s v n xs)(hg:w.grownBy w' (some g))(F:Z w g t cs)(ht:t≠e):w'.ownsRow B e s v n xs:=by
 refine World.ownsRow.kept h hg ?_;cases hv:v.ownBlock with
 |none=>exact .inl J
 |some k=>
  refine .inr ?_;intro he;injection he with he;subst he;rcases h.2 with⟨rfl,_⟩|⟨g',cap,cur,rfl,_,hh,_⟩
  ·simp[Value.ownBlock]at hv
  ·have:g'=k:=mT;subst this;unfold Z at F;rw[hh]at F;injection F with F;injection F with _ he;exact ht he.symm
theorem uD.uG{l:List RR}(h:uD w B v l)(hg:w.grownBy w' (some g))(F:Z w g t cs)(U:t≠119)(X:t≠9):uD w' B v l:=h.ue (fun _ x=>Bi x hg F U) (fun _ _ x=>x.ue (ug.uG hg F X))
theorem wS.uG{l:List Qn}(h:wS w B v l)(hg:w.grownBy w' (some g))(F:Z w g t cs)(U:t≠28)(X:t≠9):wS w' B v l:=h.ue (fun _ x=>Bi x hg F U) (fun _ _ x=>x.ue (ug.uG hg F X))
def uA(w:World)(cs:List Value)(m:vo):Prop:=∃vq va vu ve,cs=yh m.hd vq va vu ve/\wS w 0 vq m.qs/\uD w 0 va m.an/\uD w 0 vu m.au/\uD w 0 ve m.ex/\m.qs.length<=65535/\m.an.length<=65535/\m.au.length<=65535/\m.ex.length<=65535
theorem uA.is{m:vo}(h:uA w cs m):∃Aq Aa Au Ae cq ca cu ce,yZ w cs m Aq Aa Au Ae cq ca cu ce:=by
 obtain⟨vq,va,vu,ve,U,X,h3,h4,h5,l1,l2,l3,l4⟩:=h;obtain⟨Aq,cq,rfl⟩:=X.form;obtain⟨Aa,ca,rfl⟩:=h3.form;obtain⟨Au,cu,rfl⟩:=h4.form;obtain⟨Ae,ce,rfl⟩:=h5.form;exact⟨Aq,Aa,Au,Ae,cq,ca,cu,ce,U,X.qq,h3.rr,h4.rr,h5.rr,I,I,I,I⟩
theorem uA.G{m:vo}(h:uA w cs m)(F:al w w'):uA w' cs m:=by
 obtain⟨vq,va,vu,ve,U,X,h3,h4,h5,l⟩:=h;exact⟨vq,va,vu,ve,U,X.G F,h3.G F,h4.G F,h5.G F,l⟩
def vo.zero:vo:=⟨Hd.zero,[],[],[],[]⟩
def uw:List Value:=yh Hd.zero tS tS tS tS
theorem uA.zero(w:World):uA w uw vo.zero:=⟨tS,tS,tS,tS,J,wS.nil w 0,uD.nil w 0,uD.nil w 0,uD.nil w 0,by simp[vo.zero],by simp[vo.zero],by simp[vo.zero],by simp[vo.zero]⟩
def strs(n:List (List UInt8)):List Value:=n.map fun t=>Value.string (bs t)
theorem YX(n:List (List UInt8)):(strs n).length=n.length:=by simp[strs]
theorem YY(n:List (List UInt8)):∀v∈strs n,v.oneCell'=true:=by
 intro v hv;exact tF
theorem YZ(w:World)(E:TypeId)(B:Nat)(v:Value)(n:Nat)(xs:List Value)(adV:w.ownsRow B 9 1 v n xs)(hB:B<=w.heap.size)(A:Option Addr)(m c:Nat)(news:List Value)(hn:0<m->∃b off,A=some ⟨b,off,none⟩/\w.rangeAt b off news)(hl:news.length=m)(U:∀u∈news,u.oneCell'=true)(F:n+m<=300000):
  ∃v' w',(Builtin.append_ #[26,26] E #[v,.slice A m c]).run prog w= .ok v' w'/\w'.ownsRow B 9 1 v' (n+m) (xs++news)/\w.grownBy w' v.ownBlock:=by
 obtain⟨i,hi,hz,adT,hby⟩:=info_parts DB;by_cases hm:0<m
 ·
  obtain⟨b,off,rfl,hr⟩:=hn hm;obtain⟨v',w',hr,X,h3,_,h5⟩:=run_append_own_at (P:=prog) w B 26 E 9 i _ 1 16 underlying26 hi hz adT hby J I v n xs adV ⟨b,off,none⟩ m c news I (fun j u hu=>by
   have agp:(⟨b,off,none⟩:Addr).add j=⟨b,off+j,none⟩:=gM;rw[agp];exact hr j u hu) U aJ I hB
  exact sR
 ·
  obtain rfl:m=0:=I;have akW:news=[]:=gV;subst akW;have hv:∃A' c',v= .slice A' n c'/\n<=c':=by exact pQ
  obtain⟨A',c',rfl,agw⟩:=hv;refine⟨.slice A' n c',w,?_,fX,World.grownBy.refl _ _⟩;cases A with
  |none=>cases A'<;>simp[Builtin.append_,run_underlying underlying26,sizeOf,typeInfo,hi,adT,Builtin.lenOf,agw,Builtin.firstCells,storeCells]
  |some ad=>have hl0:(loadCells ad 0).run prog w= .ok #[] w:=rfl;cases A'<;>simp[hl0,Builtin.append_,run_underlying underlying26,sizeOf,typeInfo,hi,adT,Builtin.lenOf,agw,Builtin.firstCells,storeCells]
theorem QG(w:World){a:Act}{Q:Exit->Act->World->Prop}(hgd:o.guard=none)(s x:Operand)
  (ho:o.op= .call {callee:=.builtin .append,args:= #[s,x],argTypes:= #[26,26]})
  (B:Nat) (v:Value) (n:Nat) (xs:List Value) (hs:a.eval s=v) (adV:w.ownsRow B 9 1 v n xs) (hB:B<=w.heap.size) (A:Option Addr) (m c:Nat) (news:List Value) (hx:a.eval x= .slice A m c)
  (hn:0<m->∃b off,A=some ⟨b,off,none⟩/\w.rangeAt b off news) (hl:news.length=m) (U:∀u∈news,u.oneCell'=true) (F:n+m<=300000) (k:Nat) (O:k=n+m)
  (h:∀A' c' w',w'.ownsRow B 9 1 (.slice A' k c') k (xs++news)->w.grownBy w' v.ownBlock->wpList prog ops Q rest (a.put o.dst (.slice A' k c')) w'):
  wpList prog ops Q (o::rest) a w:=by
 subst O;refine wpList_plain hgd fun hb hK=>?_
 obtain⟨v',w',hr,X,h3⟩:=YZ w o.type B v n xs adV hB A m c news hn hl U F;exact pg
theorem xj.range{n:List (List UInt8)}(h:xj w A c n):0<n.length->∃b off,A=some ⟨b,off,none⟩/\w.rangeAt b off (strs n):=by
 intro hp;obtain⟨b,off,U,X,h3⟩:=h.1 hp;refine⟨b,off,U,fun j v hv=>?_⟩;have hj:j<n.length:=by have:=(List.getElem?_eq_some_iff.1 hv).1;simpa[strs]using this
 rw[h3 j hj,<-hv];simp[strs,hj]
theorem Wn(w:World)(B:Nat)(hB:B<=w.heap.size):(w.alloc (.cells #[] 9)).ownsRow B 9 1 (.slice (some ⟨w.heap.size,0,none⟩) 0 0) 0 []:=by
 refine⟨J,.inr ⟨w.heap.size,0,#[],J,hB,heap_alloc_new w _,Nat.le_refl _,by simp[maxLen],J,J⟩⟩
theorem Vk(A:Option Addr)(n c:Nat)(w:World):(binOp BinOp.eql 26 (.slice A n c) (.slice none 0 0)).run prog w= .ok (.bool A.isNone) w:=by
 cases A<;>kernel_rfl
def Y0(n:List (List UInt8))(w:World)(e:Ending)(w':World):Prop:=∃A c,e= .returned (.slice A n.length c)/\w'.ownsRow w.heap.size 9 1 (.slice A n.length c) n.length (strs n)/\al w w'
theorem Dj(A:Option Addr)(c:Nat)(n:List (List UInt8))(w:World)(hA:xj w A c n)(hn:n.length<=100000):
  Calls prog 73 #[.slice A n.length c] w (Y0 n w):=by
 cases A with
 |none=>
  have h0:n=[]:=by
   cases n with
   |nil=>rfl
   |cons x n=>obtain⟨b,off,h,_⟩:=hA.1 ap;cases h
  subst h0;have EN:=Vk none 0 c;go_enter func73,ntmps73;go_wp2_with fail;go_ret;exact⟨none,0,J,World.ownsRow_nil _ _ _ _,Below.refl _ _⟩
 |some ad=>have RG:=Y (fun w' (b:al w w')=>(hA.G b).range);clear hA;have EN:=Vk (some ad) n.length c;have kb:Below w.heap.size w (w.alloc (.cells #[] 9)):=gj;go_enter func73,ntmps73;go_wp2_with(at_builtin;go_must(refine QG _ J (.tmp 5) (.tmp 6) J w.heap.size _ 0 [] J (Wn w _ (Nat.le_refl _)) kb.size (some ad) n.length c (strs n) J (RG.out _ kb) (YX n) (YY n) I n.length I ?_));intro A' c' w' ho hg;have HB:al w w':=kb.grown hg kb.size (fun k O=>by simp[Value.ownBlock]at O;omega);go_wp2_with fail;go_ret;exact⟨A',c',J,by simpa using ho,HB⟩
theorem TP(a b:Qn):decide (a=b)=(decide (a.name=b.name)&&((a.E==b.E)&&(a.N==b.N))):=by
 rw[Bool.eq_iff_iff];obtain⟨a0,a1,a2⟩:=a;obtain⟨b0,b1,b2⟩:=b;simp
theorem Wo(An Bn:Option Addr)(cn dn:Nat)(a b:Qn)(w:World)(hA:xj w An cn a.name)(hB:xj w Bn dn b.name):
  Calls prog 80 #[.agg (qC (.slice An a.name.length cn) a).toArray,.agg (qC (.slice Bn b.name.length dn) b).toArray] w (uf (.bool (decide (a=b))) w):=by
 rw[TP];have HB0:Below w.heap.size w ((w.alloc (.cells #[.slice An a.name.length cn,.int .i64 a.E,.int .i64 a.N] 28)).alloc (.cells #[.slice Bn b.name.length dn,.int .i64 b.E,.int .i64 b.N] 28)):=gA;have aeR:=Y (zY An Bn a.name b.name cn dn _ (hA.G HB0).1 (hB.G HB0).1 aZ (by have:=hB.2.2.1;omega));have B1':=(Z.new w 28 [.slice An a.name.length cn,.int .i64 a.E,.int .i64 a.N]).alloc (.cells #[.slice Bn b.name.length dn,.int .i64 b.E,.int .i64 b.N] 28);have B2':=Z.vP (w.alloc (.cells #[.slice An a.name.length cn,.int .i64 a.E,.int .i64 a.N] 28)) 28 [.slice Bn b.name.length dn,.int .i64 b.E,.int .i64 b.N] (w.heap.size+1) ap;unfold qC;clear hA hB;generalize decide (a.name=b.name)=q0 at*;generalize a.name.length=n1,b.name.length=n2 at*;obtain⟨q1,U⟩:∃q,Hid ((a.E==b.E)=q):=gG;obtain⟨q2,X⟩:∃q,Hid ((a.N==b.N)=q):=gG;rw[U.out,X.out];generalize a.E=ta,b.E=tb at*;generalize a.N=la,b.N=lb at*;go_enter func80,ntmps80;go_wp2_with fail;refine aeR.out.mono ?_;rintro _ w1 ⟨rfl,b1⟩;have B1:=B1'.G b1 B1'.lt;have B2:=B2'.G b1 B2'.lt;have HB:=tL HB0 HB0.size b1;clear aeR B1' B2' HB0 b1;cases q0 with
 |false=>exact oH
 |true=>
 have a1:=B1.K 1 J;have b1:=B2.K 1 J;have k1:=U.out;cases q1 with
 |false=>exact oH
 |true=>
 have a2:=B1.K 2 J;have b2:=B2.K 2 J;have k2:=X.out;cases q2 with
 |false=>exact oH
 |true=>exact oH
theorem acq{α:Type}{a b:List α}{k:Nat}(U:k<a.length)(X:k<b.length)(h:a[k]≠b[k]):a≠b:=by
 intro e;subst e;exact h J
theorem Ex(A B:Option Addr)(ca cb:Nat)(la lb:List RR)(w:World)(hA:KW w A la)(hB:KW w B lb)(lla:la.length<=17592186044416)(llb:lb.length<=17592186044416):
  Calls prog 81 #[.slice A la.length ca,.slice B lb.length cb] w (uf (.bool (decide (la=lb))) w):=by
 by_cases hl:la.length=lb.length
 case neg=>have hd:decide (la=lb)=false:=decide_eq_false (fun h=>hl bK);have hl':((la.length:Int) !=(lb.length:Int))=true:=az;rw[hd];clear hd hl hA hB;go_enter func81,ntmps81;exact qV
 have hl':((la.length:Int) !=(lb.length:Int))=false:=az;obtain⟨q,hq⟩:=ao (decide (la=lb));rw[hq.out];go_enter func81,ntmps81;go_wp2_with fail;go_loopw[5] (fun iv wr=>∃k:Nat,k<=la.length/\iv= .int .i64 k/\(∀i (U:i<la.length) (X:i<lb.length),i<k->la[i]=lb[i])/\al w wr) (fun iv _=>la.length-(intOf iv).toNat)
 case atStart=>exact⟨0,Nat.zero_le _,J,fun i _ _ h=>absurd h I,Below.refl _ _⟩
 obtain⟨k,O,rfl,he,F⟩:=hrel;have HE:=Y he;clear he;by_cases Hh:k<la.length
 case pos=>
  have tQ:(k:Int)<la.length:=I;have hlb:k<lb.length:=I;have ar1:(k:Int)<lb.length:=I;obtain⟨ba,oa,eA,hba,hel⟩:=hA I;obtain⟨bb,ob,eB,hbb,hem⟩:=hB I;subst eA;subst eB;obtain⟨ck,r1,i1⟩:=hel k Hh;obtain⟨dk,r2,i2⟩:=hem k hlb;have l1:=(show ck.length=33 by obtain⟨_,_,_,_,_,_,rfl,hr,_⟩:=i1;exact uP hr);have l2:=(show dk.length=33 by obtain⟨_,_,_,_,_,_,rfl,hr,_⟩:=i2;exact uP hr);have S:=Y (fun w' (b:al w w')=>zf ck dk la[k] lb[k] w' (i1.G b) (i2.G b));obtain⟨s,hs⟩:=ao (decide (la[k]=lb[k]));rw[hs.out]at S;clear hel hem i1 i2;go_wp2_with fail;refine xz (by kernel_rfl) (by kernel_rfl) ?_
  (refine tW (v:=(.slice (some ⟨ba,oa,none⟩) la.length ca)) J (fun W hW=>by first|(go_simp;done)|(go_simp;omega)) ?_;simp only[z])
  (refine tW (v:=(.int .i64 k)) J (fun W hW=>by first|(go_simp;done)|(go_simp;omega)) ?_;simp only[z])
  (refine tW (v:=(.pointer (some ⟨ba,oa+k*33,none⟩))) J (fun W hW=>by first|(go_simp;done)|(go_simp;omega)) ?_;simp only[z])
  refine vr 119 (.tmp 19) J ⟨ba,oa+k*33,none⟩ J J (fun W hW=>run_loadAt_mid W ba (oa+k*33) 119 ck _ (tX (tX r1 F hba) hW (Nat.lt_of_lt_of_le hba F.size)) underlying119 J (by rw[l1];exact uu)) ?_;simp only[z]
  (refine tW (v:=(.slice (some ⟨bb,ob,none⟩) lb.length cb)) J (fun W hW=>by first|(go_simp;done)|(go_simp;omega)) ?_;simp only[z])
  (refine tW (v:=(.int .i64 k)) J (fun W hW=>by first|(go_simp;done)|(go_simp;omega)) ?_;simp only[z])
  (refine tW (v:=(.pointer (some ⟨bb,ob+k*33,none⟩))) J (fun W hW=>by first|(go_simp;done)|(go_simp;omega)) ?_;simp only[z])
  refine vr 119 (.tmp 23) J ⟨bb,ob+k*33,none⟩ J J (fun W hW=>run_loadAt_mid W bb (ob+k*33) 119 dk _ (tX (tX r2 F hbb) hW (Nat.lt_of_lt_of_le hbb F.size)) underlying119 J (by rw[l2];exact uu)) ?_;simp only[z];refine vN 124 #[.agg ck.toArray,.agg dk.toArray] J (fun W=>by go_simp) (fun W hW=>uf.zq hW (S.out W (tL F F.size hW))) ?_;simp only[z]
  (refine tW (v:=(.bool (!s))) J (fun W hW=>by first|(go_simp;done)|(go_simp;omega)) ?_;simp only[z])
  refine wpQuiet_nil ?_;intro w4 hb4;have HB4:=tL F F.size hb4;clear S hb4 F;cases s with
  |false=>
   obtain rfl:q=false:=by rw[<-hq.out];exact te
   clear hq hs HE;exact qD
  |true=>
   have e:=of_decide_eq_true hs.out;go_wp2_with fail;go_roundw
   case rel=>exact⟨k+1,I,fU,fun i U X h3=>by
    by_cases hi:i=k
    ·subst hi;exact e
    ·
     exact HE.out i U X I,HB4⟩
   case measure=>simp[intOf];omega
 obtain rfl:k=la.length:=I;have tQ:¬(la.length:Int)<la.length:=I;obtain rfl:q=true:=by rw[<-hq.out];exact decide_eq_true (List.ext_getElem hl (fun i U X=>HE.out i U X U))
 clear HE hq;go_wp2_with fail;go_ret;exact uf.mk J F
theorem Wp : (prog.fieldsOf 46).toList = [{ name := "ID", type := 3, offset := 0, embedded := false, tag := "", pkgPath := "", byteOffset := 0 }, { name := "QR", type := 4, offset := 1, embedded := false, tag := "", pkgPath := "", byteOffset := 8 }, { name := "Opcode", type := 3, offset := 2, embedded := false, tag := "", pkgPath := "", byteOffset := 16 }, { name := "AA", type := 4, offset := 3, embedded := false, tag := "", pkgPath := "", byteOffset := 24 }, { name := "TC", type := 4, offset := 4, embedded := false, tag := "", pkgPath := "", byteOffset := 25 }, { name := "RD", type := 4, offset := 5, embedded := false, tag := "", pkgPath := "", byteOffset := 26 }, { name := "RA", type := 4, offset := 6, embedded := false, tag := "", pkgPath := "", byteOffset := 27 }, { name := "AD", type := 4, offset := 7, embedded := false, tag := "", pkgPath := "", byteOffset := 28 }, { name := "CD", type := 4, offset := 8, embedded := false, tag := "", pkgPath := "", byteOffset := 29 }, { name := "Rcode", type := 3, offset := 9, embedded := false, tag := "", pkgPath := "", byteOffset := 32 }] := by kernel_rfl
theorem abb(a b:Hd)(w:World):(Op.equalIn 10000 46 (.agg a.vJ.toArray) (.agg b.vJ.toArray)).run prog w= .ok (decide (a=b)) w:=by
 rw[run_equalIn_struct w 9999 46 _ _ (by unfold Program.fieldsOf;rw[underlying46]) (by kernel_rfl),Wp];have p0:∀(x:Hd) (w:World),(part 3 x.vJ.toArray 0).run prog w= .ok (.int .i64 x.id) w:=iG;have e0:(Op.equalIn 9999 3 (.int .i64 a.id) (.int .i64 b.id)).run prog w= .ok (a.id==b.id) w:=gP;have p1:∀(x:Hd) (w:World),(part 4 x.vJ.toArray 1).run prog w= .ok (.bool x.qr) w:=gD;have e1:(Op.equalIn 9999 4 (.bool a.qr) (.bool b.qr)).run prog w= .ok (a.qr==b.qr) w:=gU;have p2:∀(x:Hd) (w:World),(part 3 x.vJ.toArray 2).run prog w= .ok (.int .i64 x.op) w:=iG;have e2:(Op.equalIn 9999 3 (.int .i64 a.op) (.int .i64 b.op)).run prog w= .ok (a.op==b.op) w:=gP;have p3:∀(x:Hd) (w:World),(part 4 x.vJ.toArray 3).run prog w= .ok (.bool x.aa) w:=gD;have e3:(Op.equalIn 9999 4 (.bool a.aa) (.bool b.aa)).run prog w= .ok (a.aa==b.aa) w:=gU;have p4:∀(x:Hd) (w:World),(part 4 x.vJ.toArray 4).run prog w= .ok (.bool x.tc) w:=gD;have e4:(Op.equalIn 9999 4 (.bool a.tc) (.bool b.tc)).run prog w= .ok (a.tc==b.tc) w:=gU;have p5:∀(x:Hd) (w:World),(part 4 x.vJ.toArray 5).run prog w= .ok (.bool x.rd) w:=gD;have e5:(Op.equalIn 9999 4 (.bool a.rd) (.bool b.rd)).run prog w= .ok (a.rd==b.rd) w:=gU;have p6:∀(x:Hd) (w:World),(part 4 x.vJ.toArray 6).run prog w= .ok (.bool x.ra) w:=gD;have e6:(Op.equalIn 9999 4 (.bool a.ra) (.bool b.ra)).run prog w= .ok (a.ra==b.ra) w:=gU;have p7:∀(x:Hd) (w:World),(part 4 x.vJ.toArray 7).run prog w= .ok (.bool x.ad) w:=gD;have e7:(Op.equalIn 9999 4 (.bool a.ad) (.bool b.ad)).run prog w= .ok (a.ad==b.ad) w:=gU;have p8:∀(x:Hd) (w:World),(part 4 x.vJ.toArray 8).run prog w= .ok (.bool x.cd) w:=gD;have e8:(Op.equalIn 9999 4 (.bool a.cd) (.bool b.cd)).run prog w= .ok (a.cd==b.cd) w:=gU;have p9:∀(x:Hd) (w:World),(part 3 x.vJ.toArray 9).run prog w= .ok (.int .i64 x.rc) w:=iG;have e9:(Op.equalIn 9999 3 (.int .i64 a.rc) (.int .i64 b.rc)).run prog w= .ok (a.rc==b.rc) w:=gP;simp only[Op.eqFields,ne_eq,String.reduceEq,not_false_eq_true,if_true,Sem.run_bind,p0,p1,p2,p3,p4,p5,p6,p7,p8,p9,e0,e1,e2,e3,e4,e5,e6,e7,e8,e9,Result.andThen_ok,Sem.run_ite,Sem.run_pure];clear p0 e0 p1 e1 p2 e2 p3 e3 p4 e4 p5 e5 p6 e6 p7 e7 p8 e8 p9 e9;obtain⟨a0,a1,a2,a3,a4,a5,a6,a7,a8,a9⟩:=a;obtain⟨b0,b1,b2,b3,b4,b5,b6,b7,b8,b9⟩:=b;simp only[Hd.mk.injEq];by_cases h0:a0=b0
 case neg=>simp[h0]
 by_cases U:a1=b1
 case neg=>simp[h0,U]
 by_cases X:a2=b2
 case neg=>simp[h0,U,X]
 by_cases h3:a3=b3
 case neg=>simp[h0,U,X,h3]
 by_cases h4:a4=b4
 case neg=>simp[h0,U,X,h3,h4]
 by_cases h5:a5=b5
 case neg=>simp[h0,U,X,h3,h4,h5]
 by_cases h6:a6=b6
 case neg=>simp[h0,U,X,h3,h4,h5,h6]
 by_cases h7:a7=b7
 case neg=>simp[h0,U,X,h3,h4,h5,h6,h7]
 by_cases h8:a8=b8
 case neg=>simp[h0,U,X,h3,h4,h5,h6,h7,h8]
 by_cases h9:a9=b9
 case neg=>simp[h0,U,X,h3,h4,h5,h6,h7,h8,h9]
 simp[h0,U,X,h3,h4,h5,h6,h7,h8,h9]
theorem TQ(a b:vo):decide (a=b)=(decide (a.hd=b.hd)&&(decide (a.qs=b.qs)&&(decide (a.an=b.an)&&(decide (a.au=b.au)&&decide (a.ex=b.ex))))):=by
 rw[Bool.eq_iff_iff];obtain⟨a0,a1,a2,a3,a4⟩:=a;obtain⟨b0,b1,b2,b3,b4⟩:=b;simp
theorem TS(cs ds:List Value)(m m':vo)(Aq Aa Au Ae Bq Ba Bu Be:Option Addr)(cq ca cu ce dq da du de:Nat)(w:World)(h:yZ w cs m Aq Aa Au Ae cq ca cu ce)(h':yZ w ds m' Bq Ba Bu Be dq da du de):
  Calls prog 21 #[.agg cs.toArray,.agg ds.toArray] w (uf (.bool (decide (m=m'))) w):=by
 rw[TQ];have hcs:=h.hcs;have hds:=h'.hcs;have hl:cs.length=14:=iB;have hl2:ds.length=14:=by rw[hds];exact yJ _ _ _ _ _
 have L10:cs[10]?=some (.slice Aq m.qs.length cq):=bI;have L11:cs[11]?=some (.slice Aa m.an.length ca):=bI;have L12:cs[12]?=some (.slice Au m.au.length cu):=bI;have L13:cs[13]?=some (.slice Ae m.ex.length ce):=bI;have M10:ds[10]?=some (.slice Bq m'.qs.length dq):=bJ;have M11:ds[11]?=some (.slice Ba m'.an.length da):=bJ;have M12:ds[12]?=some (.slice Bu m'.au.length du):=bJ;have M13:ds[13]?=some (.slice Be m'.ex.length de):=bJ;have LH1:Hid ((cs.drop 0).take 10=m.hd.vJ):=Y bI;have LH2:Hid ((ds.drop 0).take 10=m'.hd.vJ):=Y bJ;have EH:=abb m.hd m'.hd;have SA:=Y (fun w' (b:al w w')=>Ex Aa Ba ca da m.an m'.an w' (h.ha.G b) (h'.ha.G b) h.la h'.la);have SU:=Y (fun w' (b:al w w')=>Ex Au Bu cu du m.au m'.au w' (h.hu.G b) (h'.hu.G b) h.lu h'.lu);have SE:=Y (fun w' (b:al w w')=>Ex Ae Be ce de m.ex m'.ex w' (h.he.G b) (h'.he.G b) h.le h'.le);have hq:=h.hq;have hq':=h'.hq;have lq':=h'.lq;clear hcs hds h h';generalize decide (m.hd=m'.hd)=qh at*;generalize decide (m.an=m'.an)=qa at*;generalize decide (m.au=m'.au)=qu at*;generalize decide (m.ex=m'.ex)=qe at*;generalize m.hd.vJ=H1 at*;generalize m'.hd.vJ=H2 at*;generalize m.qs=Q at*;generalize m'.qs=Q' at*;generalize m.an.length=na at*;generalize m'.an.length=na' at*;generalize m.au.length=nu at*;generalize m'.au.length=nu' at*;generalize m.ex.length=ne at*;generalize m'.ex.length=ne' at*;have B1:=(Z.new w 50 cs).alloc (.cells ds.toArray 50);have B2:=Z.vP (w.alloc (.cells cs.toArray 50)) 50 ds (w.heap.size+1) ap;have HB:Below w.heap.size w ((w.alloc (.cells cs.toArray 50)).alloc (.cells ds.toArray 50)):=gA;cases qh with
 |false=>
  go_enter func21,ntmps21;go_wp2_with(first
   |(refine tO (.load 46 (.tmp 6)) rfl ?_;go_must(refine tP rfl _ _ rfl w.heap.size 0 rfl B1 10 I _ underlying46 rfl Cf H1 LH1.out ?_))
   |(refine tO (.load 46 (.tmp 8)) rfl ?_;go_must(refine tP rfl _ _ rfl (w.heap.size+1) 0 rfl B2 10 I _ underlying46 rfl Cf H2 LH2.out ?_)))
  exact oT
 |true=>
 have c10:=B1.K 10 L10;have d10:=B2.K 10 M10;by_cases hll:Q.length=Q'.length
 case neg=>
  have hd:decide (Q=Q')=false:=decide_eq_false (fun h=>hll bK);have hl':((Q.length:Int) !=(Q'.length:Int))=true:=az;rw[hd];clear hd hll hq hq';go_enter func21,ntmps21;go_wp2_with(first
   |(refine tO (.load 46 (.tmp 6)) rfl ?_;go_must(refine tP rfl _ _ rfl w.heap.size 0 rfl B1 10 I _ underlying46 rfl Cf H1 LH1.out ?_))
   |(refine tO (.load 46 (.tmp 8)) rfl ?_;go_must(refine tP rfl _ _ rfl (w.heap.size+1) 0 rfl B2 10 I _ underlying46 rfl Cf H2 LH2.out ?_)))
  exact oT
 have hl':((Q.length:Int) !=(Q'.length:Int))=false:=az;obtain⟨q,hqq⟩:=ao (decide (Q=Q'));rw[hqq.out];go_enter func21,ntmps21;go_wp2_with(first
  |(refine tO (.load 46 (.tmp 6)) rfl ?_;go_must(refine tP rfl _ _ rfl w.heap.size 0 rfl B1 10 I _ underlying46 rfl Cf H1 LH1.out ?_))
  |(refine tO (.load 46 (.tmp 8)) rfl ?_;go_must(refine tP rfl _ _ rfl (w.heap.size+1) 0 rfl B2 10 I _ underlying46 rfl Cf H2 LH2.out ?_)))
 obtain⟨w1,hw1⟩:∃w1,w1=(w.alloc (.cells cs.toArray 50)).alloc (.cells ds.toArray 50):=gp;rw[<-hw1]at B1 B2 HB c10 d10⊢;clear hw1 EH LH1 LH2;go_loopw[5] (fun iv wr=>∃k:Nat,k<=Q.length/\iv= .int .i64 k/\(∀i (U:i<Q.length) (X:i<Q'.length),i<k->Q[i]=Q'[i])/\al w1 wr) (fun iv _=>Q.length-(intOf iv).toNat)
 case atStart=>exact⟨0,Nat.zero_le _,J,fun i _ _ h=>absurd h I,Below.refl _ _⟩
 clear c10 d10;obtain⟨k,O,rfl,he,F⟩:=hrel;have HE:=Y he;have Br1:=B1.G F B1.lt;have Br2:=B2.G F B2.lt;have HBr:=tL HB HB.size F;have c10:=Br1.K 10 L10;have d10:=Br2.K 10 M10;clear he;by_cases Hh:k<Q.length
 case pos=>
  have tQ:(k:Int)<Q.length:=I;have hlb:k<Q'.length:=I;have ar1:(k:Int)<Q'.length:=I;obtain⟨ba,oa,eA,hba,hel⟩:=hq I;obtain⟨bb,ob,eB,hbb,hem⟩:=hq' I;subst eA;subst eB;obtain⟨An,cn,r1,i1⟩:=hel k Hh;obtain⟨Bn,dn,r2,i2⟩:=hem k hlb;have S:=Y (fun w' (b:al w w')=>Wo An Bn cn dn Q[k] Q'[k] w' (i1.G b) (i2.G b));obtain⟨s,hs⟩:=ao (decide (Q[k]=Q'[k]));rw[hs.out]at S;have e1:(qC (.slice An (Q[k]'Hh).name.length cn) (Q[k]'Hh)).length=3:=rfl;have e2:(qC (.slice Bn (Q'[k]'hlb).name.length dn) (Q'[k]'hlb)).length=3:=rfl;generalize qC (.slice An (Q[k]'Hh).name.length cn) (Q[k]'Hh)=ck at*;generalize qC (.slice Bn (Q'[k]'hlb).name.length dn) (Q'[k]'hlb)=dk at*;clear hel hem i1 i2;go_wp2_with fail;refine xz (by kernel_rfl) (by kernel_rfl) ?_
  (refine tW (v:=(.pointer (some ⟨w.heap.size,10,none⟩))) J (fun W hW=>by first|(go_simp;done)|(go_simp;omega)) ?_;simp only[z])
  refine vr 47 (.tmp 27) J ⟨w.heap.size,10,none⟩ J J (fun W hW=>tV underlying47 J ((Br1.G hW Br1.lt).K 10 L10)) ?_;simp only[z]
  (refine tW (v:=(.int .i64 k)) J (fun W hW=>by first|(go_simp;done)|(go_simp;omega)) ?_;simp only[z])
  (refine tW (v:=(.pointer (some ⟨ba,oa+k*3,none⟩))) J (fun W hW=>by first|(go_simp;done)|(go_simp;omega)) ?_;simp only[z])
  refine vr 28 (.tmp 30) J ⟨ba,oa+k*3,none⟩ J J (fun W hW=>run_loadAt_mid W ba (oa+k*3) 28 ck _ (tX (tX r1 HBr hba) hW (Nat.lt_of_lt_of_le hba HBr.size)) underlying28 J (by rw[e1];exact xh)) ?_;simp only[z]
  (refine tW (v:=(.pointer (some ⟨w.heap.size+1,10,none⟩))) J (fun W hW=>by first|(go_simp;done)|(go_simp;omega)) ?_;simp only[z])
  refine vr 47 (.tmp 32) J ⟨w.heap.size+1,10,none⟩ J J (fun W hW=>tV underlying47 J ((Br2.G hW Br2.lt).K 10 M10)) ?_;simp only[z]
  (refine tW (v:=(.int .i64 k)) J (fun W hW=>by first|(go_simp;done)|(go_simp;omega)) ?_;simp only[z])
  (refine tW (v:=(.pointer (some ⟨bb,ob+k*3,none⟩))) J (fun W hW=>by first|(go_simp;done)|(go_simp;omega)) ?_;simp only[z])
  refine vr 28 (.tmp 35) J ⟨bb,ob+k*3,none⟩ J J (fun W hW=>run_loadAt_mid W bb (ob+k*3) 28 dk _ (tX (tX r2 HBr hbb) hW (Nat.lt_of_lt_of_le hbb HBr.size)) underlying28 J (by rw[e2];exact xh)) ?_;simp only[z];refine vN 80 #[.agg ck.toArray,.agg dk.toArray] J (fun W=>by go_simp) (fun W hW=>uf.zq hW (S.out W (tL HBr HBr.size hW))) ?_;simp only[z]
  (refine tW (v:=(.bool (!s))) J (fun W hW=>by first|(go_simp;done)|(go_simp;omega)) ?_;simp only[z])
  refine wpQuiet_nil ?_;intro w4 hb4;have HB4:=tL HBr HBr.size hb4;have axr:=tL F F.size hb4;clear S hb4 F HBr Br1 Br2 c10 d10;cases s with
  |false=>
   obtain rfl:q=false:=by rw[<-hqq.out];exact te
   clear hqq hs HE;exact qD
  |true=>
   have e:=of_decide_eq_true hs.out;have HEE:=Y e;clear e;go_wp2_with fail;go_roundw
   case rel=>exact⟨k+1,I,fU,fun i U X h3=>by
    by_cases hi:i=k
    ·subst hi;exact HEE.out
    ·
     exact HE.out i U X I,axr⟩
   case measure=>simp[intOf];omega
 obtain rfl:k=Q.length:=I;have tQ:¬(Q.length:Int)<Q.length:=I;obtain rfl:q=true:=by rw[<-hqq.out];exact decide_eq_true (List.ext_getElem hll (fun i U X=>HE.out i U X U))
 have c11:=Br1.K 11 L11;have d11:=Br2.K 11 M11;clear HE hqq hq hq' Hh O;go_wp2_with fail;refine(SA.out _ HBr).mono ?_;rintro _ w5 ⟨rfl,b5⟩;replace Br1:=Br1.G b5 Br1.lt;replace Br2:=Br2.G b5 Br2.lt;replace HBr:=tL HBr HBr.size b5;clear b5 c10 d10 c11 d11 SA F;cases qa with
 |false=>exact rM
 |true=>
 have c12:=Br1.K 12 L12;have d12:=Br2.K 12 M12;go_wp2_with fail;refine(SU.out _ HBr).mono ?_;rintro _ w6 ⟨rfl,b6⟩;replace Br1:=Br1.G b6 Br1.lt;replace Br2:=Br2.G b6 Br2.lt;replace HBr:=tL HBr HBr.size b6;clear b6 c12 d12 SU;cases qu with
 |false=>exact rM
 |true=>
 have c13:=Br1.K 13 L13;have d13:=Br2.K 13 M13;go_wp2_with fail;refine(SE.out _ HBr).mono ?_;rintro _ w7 ⟨rfl,b7⟩;have HB7:=tL HBr HBr.size b7;clear b7 c13 d13 SE;cases qe;all_goals
  go_wp2_with fail;go_ret;exact uf.mk J HB7
def Pd:RR:={RR.zero with E:=41,N:=1232}
def JO(id:Int):Hd:={Hd.zero with id:=id,rd:=true}
def vw(q:Qn)(id:Int)(aaI:Bool):vo:=⟨JO id,[q],[],[],if aaI then[Pd]else[]⟩
def Jp(lo:Nat)(w w':World):Prop:=w.heap.size<=w'.heap.size/\∀i,lo<=i->i<w.heap.size->w'.heap[i]?=w.heap[i]?
theorem Jp.refl(lo:Nat)(w:World):Jp lo w w:=⟨Nat.le_refl _,fun _ _ _=>rfl⟩
theorem Jp.uG(h:Jp lo w w')(F:Z w g t cs)(hg:lo<=g):Z w' g t cs:=(h.2 g hg F.lt).trans F
theorem Jp.own(h:Jp lo w w')(hB:lo<=B){e:TypeId}{n:Nat}{xs:List Value}(ho:w.ownsRow B e s v n xs):w'.ownsRow B e s v n xs:=by
 refine⟨ho.1,?_⟩;rcases ho.2 with hn|⟨g,cap,cur,hv,F,hh,rest⟩
 ·exact .inl hn
 ·exact .inr ⟨g,cap,cur,hv,F,(h.2 g (Nat.le_trans hB F) (OS hh)).trans hh,rest⟩
theorem Cg{e:TypeId}{n:Nat}{xs:List Value}(ho:w.ownsRow B e s v n xs):w.ownsRow 0 e s v n xs:=by
 refine⟨ho.1,?_⟩;rcases ho.2 with hn|⟨g,cap,cur,hv,F,hh,rest⟩
 ·exact .inl hn
 ·exact .inr ⟨g,cap,cur,hv,Nat.zero_le _,hh,rest⟩
theorem Y4{n:List (List UInt8)}(ho:w.ownsRow B 9 1 (.slice A n.length c) n.length (strs n))(U:n.length<=17592186044416)(X:∀l∈n,l.length<=140737488355328):xj w A c n:=by
 have hT:wh w (.slice A n.length c) n:=Cg ho;obtain⟨A',c',h3,h4,h5⟩:=hT.form;injection h3 with e1 e2 e3;subst e1;subst e3;exact⟨h4,h5,U,X⟩
def ac2(m:vo)(w:World)(e:Ending)(w':World):Prop:=∃cs Aq Aa Au Ae cq ca cu ce,e= .returned (.agg cs.toArray)/\al w w'/\∀w'',Jp w.heap.size w' w''->yZ w'' cs m Aq Aa Au Ae cq ca cu ce
def QH:List Value:=vy tS tS tS Pd
theorem aeh(w:World):xd w QH Pd:=⟨none,0,none,0,none,0,J,⟨J,J⟩,xj.nil _,xj.nil _,xj.nil _,by simp[Pd,RR.zero]⟩
theorem Y5{w:World}{B gq gr:Nat}{A:Option Addr}{c:Nat}{q:Qn}{id:Int}{aaI:Bool}(hq:Z w gq 28 [.slice A q.name.length c,.int .i64 q.E,.int .i64 q.N])(hr:aaI=true->Z w gr 119 QH)(hN:xj w A c q.name):
  yZ w (yh (JO id) (.slice (some ⟨gq,0,none⟩) 1 1) tS tS (if aaI then .slice (some ⟨gr,0,none⟩) 1 1 else tS)) (vw q id aaI) (some ⟨gq,0,none⟩) none none (if aaI then some ⟨gr,0,none⟩else none) 1 0 0 (if aaI then 1 else 0):=by
 refine⟨?_,fun _=>⟨gq,0,J,hq.lt,fun i hi=>?_⟩,fun h=>absurd h bL,fun h=>absurd h bL,?_,by simp[vw],by simp[vw],by simp[vw],?_⟩
 ·cases aaI<;>rfl
 ·obtain rfl:i=0:=nX;exact⟨A,c,hq.range 0 3 ap,hN⟩
 ·
  cases aaI with
  |false=>exact fun h=>absurd h bL
  |true=>
   refine fun _=>⟨gr,0,J,(hr J).lt,fun i hi=>?_⟩
   obtain rfl:i=0:=nX;refine⟨QH,?_,aeh w⟩;have:=(hr J).range 0 33 bQ;rw[List.drop_zero,List.take_of_length_le bQ]at this;exact this
 ·cases aaI<;>simp[vw]
theorem KY(A:Option Addr)(c:Nat)(q:Qn)(id:Int)(aaI:Bool)(w:World)(hA:xj w A c q.name)(hn:q.name.length<=100000):
  Calls prog 116 #[.agg #[.slice A q.name.length c,.int .i64 q.E,.int .i64 q.N],.int .i64 id,.bool aaI] w (ac2 (vw q id aaI) w):=by
 have b0:Below w.heap.size w ((w.alloc (.cells #[.slice A q.name.length c,.int .i64 q.E,.int .i64 q.N] 28)).alloc (.cells #[.int .i64 0,.bool false,.int .i64 0,.bool false,.bool false,.bool false,.bool false,.bool false,.bool false,.int .i64 0,.slice none 0 0,.slice none 0 0,.slice none 0 0,.slice none 0 0] 50)):=gA;have B3':Z ((w.alloc (.cells #[.slice A q.name.length c,.int .i64 q.E,.int .i64 q.N] 28)).alloc (.cells #[.int .i64 0,.bool false,.int .i64 0,.bool false,.bool false,.bool false,.bool false,.bool false,.bool false,.int .i64 0,.slice none 0 0,.slice none 0 0,.slice none 0 0,.slice none 0 0] 50)) w.heap.size 28 [.slice A q.name.length c,.int .i64 q.E,.int .i64 q.N]:=(Z.new w 28 [.slice A q.name.length c,.int .i64 q.E,.int .i64 q.N]).alloc _;have B6':Z ((w.alloc (.cells #[.slice A q.name.length c,.int .i64 q.E,.int .i64 q.N] 28)).alloc (.cells #[.int .i64 0,.bool false,.int .i64 0,.bool false,.bool false,.bool false,.bool false,.bool false,.bool false,.int .i64 0,.slice none 0 0,.slice none 0 0,.slice none 0 0,.slice none 0 0] 50)) (w.heap.size+1) 50 uw:=Z.vP _ _ uw _ ap;have CL:=Y (Dj A c q.name _ (hA.G b0) hn);have hb1:=hA.2.2.1;have hb2:=hA.2.2.2;have AI:=Y (fun(w:World) (gq gr:Nat) (A:Option Addr) (c:Nat)=> @Y5 w 0 gq gr A c q id aaI);have ON:=Y (fun(w:World) (B:Nat) (A:Option Addr) (c:Nat) (ho:w.ownsRow B 9 1 (.slice A q.name.length c) q.name.length (strs q.name))=>Y4 ho hb1 hb2);clear hA hn hb1 hb2;generalize vw q id aaI=h2 at*;generalize q.E=E,q.N=N,q.name=nm at*;go_enter func116,ntmps116;go_wp2_with fail;refine CL.out.mono ?_;rintro _ w3 ⟨A',c',rfl,ho,k3⟩;have B3:=B3'.G k3 B3'.lt;have B6:=B6'.G k3 B6'.lt;have b3:=tL b0 b0.size k3;have tK:w.heap.size<=((w.alloc (.cells #[.slice A nm.length c,.int .i64 E,.int .i64 N] 28)).alloc (.cells #[.int .i64 0,.bool false,.int .i64 0,.bool false,.bool false,.bool false,.bool false,.bool false,.bool false,.int .i64 0,.slice none 0 0,.slice none 0 0,.slice none 0 0,.slice none 0 0] 50)).heap.size:=b0.size;have hsz:w.heap.size+2<=w3.heap.size:=by have:=k3.size;simp at this;omega
 generalize((w.alloc (.cells #[.slice A nm.length c,.int .i64 E,.int .i64 N] 28)).alloc (.cells #[.int .i64 0,.bool false,.int .i64 0,.bool false,.bool false,.bool false,.bool false,.bool false,.bool false,.int .i64 0,.slice none 0 0,.slice none 0 0,.slice none 0 0,.slice none 0 0] 50)).heap.size=lo2 at*;clear CL B3' B6' b0 k3;go_wp2_with(refine tO (.store 26 (.tmp 11) (.tmp 10)) J (af J w.heap.size 0 (.slice A' nm.length c') B3 ap vh ?_));intro w4 B4 g4 s4;have B64:=B6.grown g4 ap;have ho4:=Bi ho g4 B3 ax;have b4:=tN b3 g4 b3.size (Nat.le_refl _);clear B3 B6 ho g4 b3;cases aaI with
 |false=>
  go_wp2_with(first
   |(refine tO (.load 28 (.tmp 3)) rfl ?_;go_must(refine tP rfl _ _ rfl w.heap.size 0 rfl B4 3 ap _ underlying28 rfl xh [.slice A' nm.length c',.int .i64 E,.int .i64 N] rfl ?_))
   |(refine tO (.store 50 (.tmp 6) (.tmp 21)) rfl (ab rfl (w.heap.size+1) 0 (yh (JO id) (.slice (some ⟨w3.heap.size,0,none⟩) 1 1) tS tS tS) (Z.alloc (Z.alloc B64 _) _) bS ux (zI _ rfl rfl rfl rfl) ?_)))
  intro w5 B5 g5 s5;have Bq:Z w5 w3.heap.size 28 [.slice A' nm.length c',.int .i64 E,.int .i64 N]:=by refine Z.grown ((Z.vP w4 28 [.slice A' nm.length c',.int .i64 E,.int .i64 N] _ s4.symm).alloc _) g5 az
  have kk:∀o1 o2,Below w4.heap.size w4 ((w4.alloc o1).alloc o2):=gN;have ho5:=Bi (vQ ho4 (kk _ _)) g5 (Z.alloc (Z.alloc B64 _) _) ax;have b5:=tN (tL b4 b4.size (kk _ _)) g5 bU I;clear kk g5 B4 B64 ho4 b4;go_wp2_with fail;refine wQ J (w.heap.size+1) J B5 _ underlying50 J ux J ?_;exact⟨_,_,_,_,_,_,_,_,_,J,b5,fun w'' hA=>AI.out w'' w3.heap.size 0 A' c' (hA.uG Bq I) (fun h=>by cases h) (ON.out w'' lo2 A' c' (hA.own tK ho5))⟩
 |true=>
  go_wp2_with(first
   |(refine tO (.load 28 (.tmp 3)) rfl ?_;go_must(refine tP rfl _ _ rfl w.heap.size 0 rfl B4 3 ap _ underlying28 rfl xh [.slice A' nm.length c',.int .i64 E,.int .i64 N] rfl ?_))
   |(refine tO (.store 50 (.tmp 6) (.tmp 21)) rfl (ab rfl (w.heap.size+1) 0 (yh (JO id) (.slice (some ⟨w3.heap.size,0,none⟩) 1 1) tS tS (.slice (some ⟨w3.heap.size+1+1,0,none⟩) 1 1)) (Z.alloc (Z.alloc (Z.alloc B64 _) _) _) bS ux (zI _ rfl rfl rfl rfl) ?_)))
  intro w5 B5 g5 s5;have Bq:Z w5 w3.heap.size 28 [.slice A' nm.length c',.int .i64 E,.int .i64 N]:=by refine Z.grown (((Z.vP w4 28 [.slice A' nm.length c',.int .i64 E,.int .i64 N] _ s4.symm).alloc _).alloc _) g5 az
  have Br:Z w5 (w3.heap.size+1+1) 119 QH:=Z.grown (Z.vP _ 119 QH _ az) g5 az;have kk:∀o1 o2 o3,Below w4.heap.size w4 (((w4.alloc o1).alloc o2).alloc o3):=jC;have ho5:=Bi (vQ ho4 (kk _ _ _)) g5 (Z.alloc (Z.alloc (Z.alloc B64 _) _) _) ax;have b5:=tN (tL b4 b4.size (kk _ _ _)) g5 bU I;clear kk g5 B4 B64 ho4 b4;go_wp2_with fail;refine wQ J (w.heap.size+1) J B5 _ underlying50 J ux J ?_;exact⟨_,_,_,_,_,_,_,_,_,J,b5,fun w'' hA=>AI.out w'' w3.heap.size (w3.heap.size+1+1) A' c' (hA.uG Bq I) (fun _=>hA.uG Br I) (ON.out w'' lo2 A' c' (hA.own tK ho5))⟩
theorem Nx{m:List UInt8}{p:Nat}(h:xF m p= .error x):x≠0:=by
 rcases zJ m p with⟨l,n,U,X,h3⟩|⟨e,U,X,h3⟩
 ·rw[X]at h;cases h
 ·rw[X]at h;injection h with h;subst h;exact h3.ne
theorem KZ{m:List UInt8}{p:Nat}(h:y6 m p= .error x):x≠0:=by
 rcases yk m p with⟨l,n,U,X,h3⟩|⟨e,U,X,h3,h4⟩
 ·rw[X]at h;cases h
 ·rw[X]at h;injection h with h;subst h;exact h4.ne
theorem Dk{m:List UInt8}{k p:Nat}(h:vH m k p= .error x):x≠0:=by
 unfold vH at h;split at h
 ·exact qT
 ·cases h
theorem Wq{m:List UInt8}{p:Nat}(h:wY m p= .error x):x≠0:=by
 unfold wY at h;cases U:y6 m p with
 |error e=>rw[U]at h;injection h with h;subst h;exact KZ U
 |ok y=>
  rw[U]at h;simp only at h;split at h
  ·cases h
  ·exact qT
theorem abc{m:List UInt8}{a n:Nat}{E N:Int}(h:yn m a n E N= .error x):x≠0:=by
 unfold yn at h;split at h
 ·
  split at h
  ·cases h
  ·exact qT
 split at h
 ·
  split at h
  ·cases h
  ·exact qT
 split at h
 ·exact sB
 split at h
 ·
  split at h
  ·exact qT
  ·exact sB
 split at h
 ·
  split at h
  ·rename_i ht;injection h with h;subst h;exact KZ ht
  ·
   split at h
   ·rename_i ht;injection h with h;subst h;exact KZ ht
   ·
    split at h
    ·cases h
    ·exact qT
 ·cases h
theorem TU{m:List UInt8}{p:Nat}(h:vE m p= .error x):x≠0:=by
 unfold vE at h;cases U:xF m p with
 |error e=>rw[U]at h;injection h with h;subst h;exact Nx U
 |ok y=>
 rw[U]at h;simp only at h;cases X:vH m 2 y.2 with
 |error e=>rw[X]at h;injection h with h;subst h;exact Dk X
 |ok acZ=>
 rw[X]at h;simp only at h;cases h3:vH m 2 acZ.2 with
 |error e=>rw[h3]at h;injection h with h;subst h;exact Dk h3
 |ok u=>rw[h3]at h;cases h
theorem Y6{m:List UInt8}{p:Nat}(h:uY m p= .error x):x≠0:=by
 unfold uY at h;cases U:xF m p with
 |error e=>rw[U]at h;injection h with h;subst h;exact Nx U
 |ok y=>
 rw[U]at h;simp only at h;cases X:vH m 2 y.2 with
 |error e=>rw[X]at h;injection h with h;subst h;exact Dk X
 |ok acZ=>
 rw[X]at h;simp only at h;cases h3:vH m 2 acZ.2 with
 |error e=>rw[h3]at h;injection h with h;subst h;exact Dk h3
 |ok u=>
 rw[h3]at h;simp only at h;cases h4:vH m 4 u.2 with
 |error e=>rw[h4]at h;injection h with h;subst h;exact Dk h4
 |ok v=>
 rw[h4]at h;simp only at h;cases h5:vH m 2 v.2 with
 |error e=>rw[h5]at h;injection h with h;subst h;exact Dk h5
 |ok t=>
 rw[h5]at h;simp only at h;split at h
 ·exact qT
 ·
  split at h
  ·rename_i hg;injection h with h;subst h;exact abc hg
  ·cases h
theorem Hu{α:Type}{g:Nat->Except Int (α×Nat)}(hg:∀p x,g p= .error x->x≠0):∀(k p:Nat) (x:Int),uJ g k p= .error x->x≠0
 |0,p,x,h=>by unfold uJ at h;cases h
 |k+1,p,x,h=>by
  unfold uJ at h;cases U:g p with
  |error e=>rw[U]at h;injection h with h;subst h;exact hg _ _ U
  |ok y=>
  rw[U]at h;simp only at h;cases X:uJ g k y.2 with
  |error e=>rw[X]at h;injection h with h;subst h;exact Hu hg _ _ _ X
  |ok acZ=>rw[X]at h;cases h
theorem abd{m:List UInt8}(h:xo m= .error x):x≠0:=by
 have hq:=fun p x=>TU (m:=m) (p:=p) (x:=x)
 have hr:=fun p x=>Y6 (m:=m) (p:=p) (x:=x)
 unfold xo at h;split at h
 ·exact qT
 split at h
 ·exact qT
 cases U:uJ (vE m) (xO m 4) 12 with
 |error e=>rw[U]at h;injection h with h;subst h;exact Hu hq _ _ _ U
 |ok y=>
 rw[U]at h;simp only at h;cases X:uJ (uY m) (xO m 6) y.2 with
 |error e=>rw[X]at h;injection h with h;subst h;exact Hu hr _ _ _ X
 |ok acZ=>
 rw[X]at h;simp only at h;cases h3:uJ (uY m) (xO m 8) acZ.2 with
 |error e=>rw[h3]at h;injection h with h;subst h;exact Hu hr _ _ _ h3
 |ok u=>
 rw[h3]at h;simp only at h;cases h4:uJ (uY m) (xO m 10) u.2 with
 |error e=>rw[h4]at h;injection h with h;subst h;exact Hu hr _ _ _ h4
 |ok v=>
 rw[h4]at h;simp only at h;split at h
 ·exact qT
 ·cases h
end Go.Proofs.YthnbcmlnpdabhaaGreat
