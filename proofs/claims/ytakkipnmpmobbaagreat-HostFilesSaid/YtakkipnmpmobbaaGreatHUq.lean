/-
  Messages:as data,as cells,as octets.
-/
import Derived.Test.YtakkipnmpmobbaaGreatHSq
import Derived.Test.YtakkipnmpmobbaaGreatHTq
namespace Go.Proofs.YtakkipnmpmobbaaGreat
open _root_.Go.Proofs.Tryz
set_option maxHeartbeats 8000000
open Go.RowKit
set_option maxRecDepth 100000
set_option linter.unusedVariables false
set_option linter.unusedSimpArgs false
variable {w w' B w2:World} {b lo gw g:Nat} {o:Oper} {cs:List Value} {A p:Option Addr} {v v':Value} {P:Program} {ops:Array Oper} {rest:List Oper} {a:Act} {s x:List UInt8}
structure Qn where
 name:List (List UInt8)
 Q:Int
 cl:Int
deriving DecidableEq
structure tq where
 hd:Hd
 qs:List Qn
 an:List RR
 au:List RR
 ex:List RR
deriving DecidableEq
def tq.Em(m:tq):List RR:=m.an++m.au++m.ex
def vw:List Int->Int
 |[]=>0
 |e::l=>if e≠0 then e else vw l
theorem NS{l:List Int}(h:∀j (hj:j<l.length),l[j]=0):vw l=0:=by
 induction l with
 |nil=>rfl
 |cons e l ih=>have h0:e=0:=h 0 ar;unfold vw;exact qn
theorem Zu{l:List Int}{k:Nat}(O:k<l.length)(h:∀j (hj:j<l.length),j<k->l[j]=0)(Z:l[k]≠0):vw l=l[k]:=by
 induction l generalizing k with
 |nil=>simp at O
 |cons e l ih=>
  cases k with
  |zero=>simp only[List.getElem_cons_zero]at Z⊢;unfold vw;rw[if_pos Z]
  |succ k=>have h0:e=0:=h 0 ar Y;unfold vw;exact pn
theorem P8(a b:List Int):vw (a++b)=if vw a≠0 then vw a else vw b:=by
 induction a with
 |nil=>simp[vw]
 |cons e a ih=>
  by_cases h:e=0
  ·simp[vw,h,ih]
  ·simp[vw,h]
def qE(q:Qn):Int:=if rR q.name≠0 then rR q.name else if xG 65535 q.Q&&xG 65535 q.cl then 0 else 4
def uf(m:tq):Int:=
 if m.hd.ok=false then 4
 else if 65535<m.qs.length\/65535<m.an.length\/65535<m.au.length\/65535<m.ex.length then 3
 else if vw (m.qs.map qE)≠0 then vw (m.qs.map qE)
 else vw (m.Em.map r8)
abbrev WS:=List UInt8×Option z6
def uk(st:WS)(q:Qn):WS:=(st.1++sC st.2 st.1.length q.name++rP 2 q.Q++rP 2 q.cl,tz st.2 st.1.length q.name)
def xF(st:WS)(r:RR):List UInt8:=st.1++sC st.2 st.1.length r.name++rP 2 r.Q++rP 2 r.cl++rP 4 r.ttl
def zz(st:WS)(r:RR):Option z6:=tz st.2 st.1.length r.name
def yA(st:WS)(r:RR):List UInt8:=xQ (zz st r) ((xF st r).length+2) r
def r7(st:WS)(r:RR):WS:=(xF st r++rP 2 (yA st r).length++yA st r,Dt (zz st r) ((xF st r).length+2) r)
def vx(m:tq)(pack:Bool):WS:=(uB m.hd m.qs.length m.an.length m.au.length m.ex.length,if pack then some []else none)
def Cc(m:tq)(pack:Bool):WS:=m.Em.foldl r7 (m.qs.foldl uk (vx m pack))
def tM(m:tq)(pack:Bool):List UInt8×Int:=
 if uf m≠0 then([],uf m)else if 65535<(Cc m pack).1.length then([],3)else((Cc m pack).1,0)
theorem Zv(st:WS)(q:Qn):st.1.length<=(uk st q).1.length:=by simp[uk]
theorem TE(st:WS)(r:RR):st.1.length<=(r7 st r).1.length:=by simp[r7,xF]
theorem Ls(l:List Qn):∀st:WS,st.1.length<=(l.foldl uk st).1.length:=by
 induction l with
 |nil=>intro st;exact Nat.le_refl _
 |cons q l ih=>intro st;exact Nat.le_trans (Zv st q) (ih _)
theorem ym(l:List RR):∀st:WS,st.1.length<=(l.foldl r7 st).1.length:=by
 induction l with
 |nil=>intro st;exact Nat.le_refl _
 |cons q l ih=>intro st;exact Nat.le_trans (TE st q) (ih _)
def qC(v:Value)(q:Qn):List Value:=[v,.int .i64 q.Q,.int .i64 q.cl]
def xR(h:Hd)(vq va vu ve:Value):List Value:=h.uY++[vq,va,vu,ve]
theorem z8(h:Hd)(vq va vu ve:Value):(xR h vq va vu ve).length=14:=rfl
theorem Cs(h:Hd){vq va vu ve:Value}(U:vq.oneCell'=true)(F:va.oneCell'=true)(h3:vu.oneCell'=true)(h4:ve.oneCell'=true):∀v∈xR h vq va vu ve,v.oneCell'=true:=by
 intro v hv;simp only[xR,Hd.uY,List.mem_append,List.mem_cons,List.not_mem_nil,or_false]at hv;rcases hv with(rfl|rfl|rfl|rfl|rfl|rfl|rfl|rfl|rfl|rfl)|rfl|rfl|rfl|rfl<;>first|rfl|assumption
theorem tn:(prog.info? 169).map (·.size)=some 14:=by kernel_rfl
theorem TF:(prog.info? 166).map (·.size)=some 10:=by kernel_rfl
theorem xS:(prog.info? 160).map (·.size)=some 3:=by kernel_rfl
def QsR(w:World)(A:Option Addr)(l:List Qn):Prop:=0<l.length->∃b off,A=some ⟨b,off,none⟩/\b<w.heap.size/\∀i (hi:i<l.length),∃An cn,w.rangeAt b (off+i*3) (qC (.slice An l[i].name.length cn) l[i])/\wA w An cn l[i].name
def TH(w:World)(A:Option Addr)(l:List RR):Prop:=0<l.length->∃b off,A=some ⟨b,off,none⟩/\b<w.heap.size/\∀i (hi:i<l.length),∃cs,w.rangeAt b (off+i*33) cs/\yJ w cs l[i]
theorem rN{Hh o:Nat}(h:w.rangeAt b o cs)(Z:Below Hh w w')(hB:b<Hh):w'.rangeAt b o cs:=fun j v hv=>(Z.cell hB).trans (h j v hv)
theorem QsR.G{l:List Qn}(h:QsR w A l)(Z:ao w w'):QsR w' A l:=by
 intro E;obtain⟨b,off,U,F,h3⟩:=h E;refine⟨b,off,U,Nat.lt_of_lt_of_le F Z.size,fun i hi=>?_⟩;obtain⟨An,cn,h4,h5⟩:=h3 i hi;exact⟨An,cn,rN h4 Z F,h5.G Z⟩
theorem TH.G{l:List RR}(h:TH w A l)(Z:ao w w'):TH w' A l:=by
 intro E;obtain⟨b,off,U,F,h3⟩:=h E;refine⟨b,off,U,Nat.lt_of_lt_of_le F Z.size,fun i hi=>?_⟩;obtain⟨cs,h4,h5⟩:=h3 i hi;exact⟨cs,rN h4 Z F,h5.G Z⟩
structure Ct (w:World) (cs:List Value) (m:tq) (Aq Aa Au Ae:Option Addr) (cq ca cu ce:Nat):Prop where
 hcs:cs=xR m.hd (.slice Aq m.qs.length cq) (.slice Aa m.an.length ca) (.slice Au m.au.length cu) (.slice Ae m.ex.length ce)
 hq:QsR w Aq m.qs
 ha:TH w Aa m.an
 hu:TH w Au m.au
 he:TH w Ae m.ex
 lq:m.qs.length<=17592186044416
 la:m.an.length<=17592186044416
 lu:m.au.length<=17592186044416
 le:m.ex.length<=17592186044416
theorem Ct.G{m:tq}{Aq Aa Au Ae:Option Addr}{cq ca cu ce:Nat}(h:Ct w cs m Aq Aa Au Ae cq ca cu ce)(Z:ao w w'):Ct w' cs m Aq Aa Au Ae cq ca cu ce:=
 ⟨h.hcs,h.hq.G Z,h.ha.G Z,h.hu.G Z,h.he.G Z,h.lq,h.la,h.lu,h.le⟩
open Go.ChangeShapes Go.WideShapes Go.ChangeAt Go.RowKit
theorem tu(cs:List Value)(n k m:Nat)(h:m=n+k):cs.drop n=(cs.drop n).take k++cs.drop m:=by
 subst h;rw[<-List.drop_drop,List.take_append_drop]
theorem Vl:∀(cs:List Value),(∀(i:Nat) (hi:i<cs.length),∃b:UInt8,cs[i]= .int .u8 (b.toNat:Int))->∃l:List UInt8,cs=sN l
 |[],_=>⟨[],I⟩
 |c::cs,h=>by
  obtain⟨b,Z⟩:=h 0 ar;obtain⟨l,E⟩:=Vl cs (fun i hi=>by have:=h (i+1) aG;simpa using this);simp at Z;exact⟨b::l,by rw[Z,E];rfl⟩
theorem ad2{i:Nat}(hi:i<cs.length)(h:(cs.drop i).take 1=[v]):cs[i]=v:=by
 have:((cs.drop i).take 1)[0]?=some v:=by rw[h];rfl
 rw[List.getElem?_take_of_lt Y,List.getElem?_drop,Nat.add_zero,List.getElem?_eq_getElem hi]at this;exact Option.some.inj this
section
variable {H:Type} {enc:TypeId×Value->H} {w:World} {cs:List Value}
theorem uS(h:sj enc prog w 3 cs):∃n:Int,cs=[.int .i64 n]:=by obtain⟨n,e,_⟩:=h.int underlying3;exact⟨n,e⟩
theorem acj(h:sj enc prog w 65 cs):∃l:List UInt8,l.length=16/\cs=sN l:=by
 have c16:prog.cellsOf 65=16:=by kernel_rfl
 have c1:prog.cellsOf 5=1:=by kernel_rfl
 obtain⟨E,hf⟩:=h.array underlying65;rw[c16]at E;rw[c1]at hf;obtain⟨l,e⟩:=Vl cs (fun i hi=>by
  obtain⟨n,e,hw⟩:=(hf i Y).int underlying5;rw[Nat.mul_one]at e;have e2:=ad2 hi e;simp only[Lit.wf,Bool.and_eq_true,decide_eq_true_eq]at hw;have h0:0<=n:=hw.1;have U:n<=255:=hw.2;refine⟨UInt8.ofNat n.toNat,?_⟩;rw[e2];have e3:(UInt8.ofNat n.toNat).toNat=n.toNat:=by rw[UInt8.toNat_ofNat'];exact Nat.mod_eq_of_lt Y
  rw[e3,Int.toNat_of_nonneg h0])
 refine⟨l,?_,e⟩;rw[e,sI]at E;exact E
theorem EG(h:sj enc prog w 67 cs):∃a:sg,a.ip.length=16/\cs=a.cells:=by
 have c18:prog.cellsOf 67=18:=by kernel_rfl
 have c1:prog.cellsOf 3=1:=by kernel_rfl
 have c16:prog.cellsOf 65=16:=by kernel_rfl
 obtain⟨E,hf⟩:=h.struct underlying67;rw[c18]at E;have h0:sj enc prog w 3 ((cs.drop 0).take (prog.cellsOf 3)):=jK;have U:sj enc prog w 65 ((cs.drop 1).take (prog.cellsOf 65)):=jJ;have F:sj enc prog w 3 ((cs.drop 17).take (prog.cellsOf 3)):=lE;rw[c1]at h0 F;rw[c16]at U;obtain⟨f,e0⟩:=uS h0;obtain⟨ip,i16,e1⟩:=acj U;obtain⟨z,e2⟩:=uS F;refine⟨⟨f,ip,z⟩,i16,?_⟩;show cs.drop 0=_;rw[tu cs 0 1 1 I,e0,tu cs 1 16 17 I,e1,tu cs 17 1 18 I,e2,List.drop_of_length_le Y];rfl
theorem z9(h:sj enc prog w 4 cs):∃b:Bool,cs=[.bool b]:=h.bool underlying4
end
theorem GM(n:Int)(w:World):Calls prog 133 #[.int .i64 n] w (uQ (.bool (xG 65535 n)) w):=by
 unfold xG;by_cases h0:0<=n
 ·
  have d0:decide (0<=n)=true:=decide_eq_true h0;by_cases U:n<=65535
  ·have d1:decide (n<=65535)=true:=decide_eq_true U;rw[d0,d1];go_enter func133,ntmps133;exact mV
  ·have d1:decide (n<=65535)=false:=decide_eq_false U;rw[d0,d1];go_enter func133,ntmps133;exact mV
 ·have d0:decide (0<=n)=false:=decide_eq_false h0;rw[d0];clear h0;go_enter func133,ntmps133;exact mV
theorem ack(h:Hd)(vq va vu ve:Value):(xR h vq va vu ve)[11]?=some va:=rfl
theorem acm(h:Hd)(vq va vu ve:Value):(xR h vq va vu ve)[12]?=some vu:=rfl
theorem acn(h:Hd)(vq va vu ve:Value):(xR h vq va vu ve)[13]?=some ve:=rfl
theorem Lu(h:Hd)(vq:Value)(Aa Au Ae:Option Addr)(na nu ne ca cu ce:Nat)(w:World):
  Calls prog 125 #[.agg (xR h vq (.slice Aa na ca) (.slice Au nu cu) (.slice Ae ne ce)).toArray] w (rW (.agg #[.slice Aa na ca,.slice Au nu cu,.slice Ae ne ce]) w):=by
 have E:=z8 h vq (.slice Aa na ca) (.slice Au nu cu) (.slice Ae ne ce);have L1:=ack h vq (.slice Aa na ca) (.slice Au nu cu) (.slice Ae ne ce);have L2:=acm h vq (.slice Aa na ca) (.slice Au nu cu) (.slice Ae ne ce);have L3:=acn h vq (.slice Aa na ca) (.slice Au nu cu) (.slice Ae ne ce);generalize xR h vq (.slice Aa na ca) (.slice Au nu cu) (.slice Ae ne ce)=cs at*;have g1:∀hi:11<cs.length,cs[11]'hi= .slice Aa na ca:=xN L1;have g2:∀hi:12<cs.length,cs[12]'hi= .slice Au nu cu:=xN L2;have g3:∀hi:13<cs.length,cs[13]'hi= .slice Ae ne ce:=xN L3;clear L1 L2 L3;go_enter func125,ntmps125;go_wp2_with fail;refine tx I (w.heap.size+1) I (N.uE _ _ [.slice Aa na ca,.slice Au nu cu,.slice Ae ne ce] _ ar) _ underlying218 I (by kernel_rfl) I ?_;exact qA
theorem WC(m:tq):uf m=if m.hd.ok=false then 4
  else if 65535<m.qs.length\/65535<m.an.length\/65535<m.au.length\/65535<m.ex.length then 3
  else if vw (m.qs.map qE)≠0 then vw (m.qs.map qE)
  else if vw (m.an.map r8)≠0 then vw (m.an.map r8)
  else if vw (m.au.map r8)≠0 then vw (m.au.map r8)else vw (m.ex.map r8):=by
 unfold uf tq.Em;rw[List.map_append,List.map_append,P8,P8];by_cases U:vw (m.an.map r8)=0
 ·simp[U]
 ·simp[U]
theorem Ie{α:Type}(f:α->Int)(l:List α)(h:∀j (hj:j<l.length),f l[j]=0):vw (l.map f)=0:=
 NS (fun j hj=>by rw[List.getElem_map];exact h j (by simpa using hj))
theorem EH{α:Type}(f:α->Int)(l:List α)(k:Nat)(O:k<l.length)(h:∀j (hj:j<l.length),j<k->f l[j]=0)(Z:f l[k]≠0):vw (l.map f)=f l[k]:=by
 have:=Zu (l:=l.map f) (k:=k) aZ (fun j hj hjk=>by rw[List.getElem_map];exact h j (by simpa using hj) hjk) (by rw[List.getElem_map];exact Z);rwa[List.getElem_map]at this
theorem sr{op:Oper}{hb:Exit->Act->World->Prop}(hgd:op.guard=none)(Q:TypeId)(x:Operand)(ho:op.op= .load Q x)
  (b o:Nat) (hx:a.eval x= .pointer (some ⟨b,o,none⟩)) (cs:List Value) (hc:w.rangeAt b o cs) (d:TypeDesc)
  (hu:P.underlying Q=some d) (hd:d.isRow=true) (hi:(P.info? Q).map (·.size)=some cs.length)
  (h:wpList P ops hb rest (a.put op.dst (.agg cs.toArray)) w):wpList P ops hb (op::rest) a w:=
 wpList_plain hgd fun al hK=>wp_load_mid Q x ho b o hx cs d hc hu hd hi (hK _ _ h)
theorem yJ.len{r:RR}(h:yJ w cs r):cs.length=33:=by obtain⟨_,_,_,_,_,_,rfl,hr,_⟩:=h;exact uu hr
theorem yJ.one{r:RR}(h:yJ w cs r):∀v∈cs,v.oneCell'=true:=by obtain⟨_,_,_,_,_,_,rfl,hr,_⟩:=h;exact uX I I I
theorem Da:∀{l:List Int},vw l=0->∀e∈l,e=0
 |[],_,e,he=>by cases he
 |x::l,h,e,he=>by
  unfold vw at h;by_cases hx:x=0
  ·
   rw[if_neg aI]at h;rcases List.mem_cons.1 he with rfl|he
   ·exact hx
   ·exact Da h e he
  ·rw[if_pos hx]at h;exact absurd h hx
structure MOk (m:tq):Prop where
 hd:m.hd.ok=true
 lq:m.qs.length<=65535
 la:m.an.length<=65535
 lu:m.au.length<=65535
 le:m.ex.length<=65535
 q:∀q∈m.qs,rR q.name=0
 r:∀r∈m.Em,r8 r=0
theorem TJ{m:tq}(h:uf m=0):MOk m:=by
 unfold uf at h;cases O:m.hd.ok with
 |false=>rw[if_pos O]at h;cases h
 |true=>
  rw[if_neg (by simp[O])]at h;by_cases U:65535<m.qs.length\/65535<m.an.length\/65535<m.au.length\/65535<m.ex.length
  ·rw[if_pos U]at h;cases h
  ·
   rw[if_neg U]at h;by_cases F:vw (m.qs.map qE)=0
   ·
    rw[if_neg (by simp[F])]at h;refine⟨O,Y,Y,Y,Y,fun q hq=>?_,fun r hr=>Da h _ (List.mem_map_of_mem hr)⟩;have:=Da F _ (List.mem_map_of_mem hq);unfold qE at this;by_cases h3:rR q.name=0
    ·exact h3
    ·rw[if_pos h3]at this;exact this
   ·rw[if_pos F]at h;exact absurd h F
theorem TM(l:List Qn)(k:Nat)(st:WS):((l.take k).foldl uk st).1.length<=(l.foldl uk st).1.length:=by
 conv=>rhs;rw[<-List.take_append_drop k l,List.foldl_append]
 exact Ls _ _
theorem TN(l:List RR)(k:Nat)(st:WS):((l.take k).foldl r7 st).1.length<=(l.foldl r7 st).1.length:=by
 conv=>rhs;rw[<-List.take_append_drop k l,List.foldl_append]
 exact ym _ _
theorem BS{α β:Type}(f:β->α->β)(l:List α)(k:Nat)(O:k<l.length)(st:β):(l.take (k+1)).foldl f st=f ((l.take k).foldl f st) l[k]:=by
 exact qN
theorem xP.mono{T:Option z6}{a:Nat}(h:xP T a)(hab:a<=b):xP T b:=fun T' e=>Nat.le_trans (h T' e) hab
theorem Zw{st:WS}{k:Nat}(h:xP st.2 k)(q:Qn):xP (uk st q).2 (k+254):=h.put _ _
theorem TP{st:WS}{k:Nat}(h:xP st.2 k)(r:RR):xP (r7 st r).2 (k+762):=by
 have U:xP (zz st r) (k+254):=h.put _ _;change xP (Dt (zz st r) ((xF st r).length+2) r) (k+762);unfold Dt;split
 ·exact(U.put _ _).mono Y
 split
 ·exact((U.put _ _).put _ _).mono Y
 ·exact U.mono Y
theorem FH:∀(l:List Qn) (st:WS) (k:Nat),xP st.2 k->xP (l.foldl uk st).2 (k+254*l.length)
 |[],st,k,h=>h
 |q::l,st,k,h=>(FH l (uk st q) (k+254) (Zw h q)).mono aB
theorem Db:∀(l:List RR) (st:WS) (k:Nat),xP st.2 k->xP (l.foldl r7 st).2 (k+762*l.length)
 |[],st,k,h=>h
 |r::l,st,k,h=>(Db l (r7 st r) (k+762) (TP h r)).mono aB
theorem WD(m:tq)(pack:Bool):xP (vx m pack).2 0:=by
  intro T' h;cases pack with
  |false=>cases h
  |true=>(obtain rfl:[]=T':=by simpa[vx]using h);simp
theorem I6{m:tq}(pack:Bool)(h:uf m≠0):tM m pack=([],uf m):=by unfold tM;rw[if_pos h]
theorem Dc{m:tq}(pack:Bool)(h:uf m=0)(E:65535<(Cc m pack).1.length):tM m pack=([],3):=by unfold tM;rw[if_neg bp,if_pos E]
theorem Ig{m:tq}(pack:Bool)(h:uf m=0)(E:¬65535<(Cc m pack).1.length):tM m pack=((Cc m pack).1,0):=by unfold tM;rw[if_neg bp,if_neg E]
theorem Vm(m:tq)(pack:Bool):Cc m pack=m.ex.foldl r7 (m.au.foldl r7 (m.an.foldl r7 (m.qs.foldl uk (vx m pack)))):=by
 unfold Cc tq.Em;rw[List.foldl_append,List.foldl_append]
theorem Lv(m:tq)(pack:Bool):(vx m pack).1.length=12:=by simp[vx,uB,rL]
theorem TQ{hb:Exit->Act->World->Prop}(hgd:o.guard=none)(t1 t2:TypeId)(x:Operand)(ho:o.op= .convert t1 t2 x)(v:Value)(hx:a.eval x=v)
  (hr:(convert t1 t2 v).run P w= .ok v' w') (h:wpList P ops hb rest (a.put o.dst v') w'):wpList P ops hb (o::rest) a w:=by
 exact pa
theorem Be.grown{T:Option z6}{row:Option Nat}(h:Be lo w p T)(hg:w.grownBy w' row)(hl:∀k,row=some k->∃cs t fz,w.heap[k]?=some (.cells cs t fz)/\t≠232):Be lo w' p T:=by
 cases T with
 |none=>exact h
 |some T=>
  obtain⟨g,b,U,F,h3,h4,⟨f,h5,h6⟩,h7⟩:=h;have n1:some g≠row:=by intro he;obtain⟨cs,t,fz,hh,ht⟩:=hl g he.symm;have h4':w.heap[g]?=_:=h4;rw[hh]at h4';injection h4' with h4';injection h4' with _ h4';exact ht h4'
  have n2:some b≠row:=by intro he;obtain⟨cs,t,fz,hh,ht⟩:=hl b he.symm;obtain⟨D,⟨es,cl,hm,_⟩,_⟩:=h5;rw[hh]at hm;cases hm
  exact⟨g,b,U,F,h3,h4.grown hg n1,⟨f,h5.kept hg n2,h6⟩,h7⟩
def xq(lo:Nat)(w:World)(gw:Nat)(s:List UInt8)(p:Option Addr)(T:Option z6):Prop:=
 ∃A c,lo<=gw/\N w gw 214 [.slice A s.length c,.pointer p]/\yx w lo (.slice A s.length c) s/\Be lo w p T
theorem xq.G{T:Option z6}(h:xq lo w gw s p T)(Z:ao w w'):xq lo w' gw s p T:=by
 obtain⟨A,c,U,F,h3,h4⟩:=h;exact⟨A,c,U,F.G Z F.lt,h3.G Z,h4.G Z⟩
def tC(lo:Nat)(w w':World):Prop:=Below lo w w'/\∀g t cs,N w g t cs->t≠214->t≠5->N w' g t cs
theorem tC.trans(h:tC lo w B)(h':tC lo B w2):tC lo w w2:=⟨h.1.trans h'.1,fun k t cs Z U F=>h'.2 k t cs (h.2 k t cs Z U F) U F⟩
theorem tC.Bc(h:ao w B)(rH:lo<=w.heap.size):tC lo w B:=⟨h.mono rH,fun k t cs Z _ _=>Z.G h Z.lt⟩
theorem tC.Zx(h:yb lo w B):tC lo w B:=⟨h.1,fun k t cs Z _ _=>h.sD Z⟩
theorem tC.size(h:tC lo w B)(rH:lo<=w.heap.size):lo<=B.heap.size:=zM h.1 rH
theorem NT{T:Option z6}{A':Option Addr}{c c':Nat}(rH:lo<=w.heap.size)(U:lo<=gw)(F:N w gw 214 [.slice A s.length c,.pointer p])(h3:yx w lo (.slice A s.length c) s)(h4:Be lo w p T)
  (k1:yx B lo (.slice A' (s++x).length c') (s++x)) (g1:w.grownBy B (Value.slice A s.length c).ownBlock) (k2:N w2 gw 214 [.slice A' (s++x).length c',.pointer p]) (g2:B.grownBy w2 (some gw)):
  xq lo w2 gw (s++x) p T/\tC lo w w2:=by
 have b1:N B gw 214 [.slice A s.length c,.pointer p]:=F.grown g1 (h3.ne F K);have t1:Be lo B p T:=h4.grown g1 (by
  intro k O;rcases h3 with⟨hv,_⟩|⟨g,cap,cur,fz,hv,hB,hh,_⟩
  ·rw[hv]at O;simp[Value.ownBlock]at O
  ·
   rw[hv]at O;obtain rfl:g=k:=jo;exact⟨_,_,_,hh,K⟩)
 have t2:Be lo w2 p T:=t1.grown g2 (by
  intro k O;obtain rfl:=Option.some.inj O;exact⟨_,_,_,b1,K⟩)
 have o2:yx w2 lo (.slice A' (s++x).length c') (s++x):=k1.kept g2 (.inr (fun he=>k1.ne b1 K he.symm));have B1:Below lo w B:=(Below.refl _ _).grown g1 rH h3.base;have B2:Below lo w w2:=rE B1 g2 (zM B1 rH) U;refine⟨⟨A',c',U,k2,o2,t2⟩,B2,fun g t cs Z n1 n2=>?_⟩;have hb1:N B g t cs:=Z.grown g1 (h3.ne Z n2);refine hb1.grown g2 ?_;intro he;obtain rfl:=Option.some.inj he;have hh:B.heap[g]?=_:=hb1;have b1':B.heap[g]?=_:=b1;exact qB
def GN(lo gw:Nat)(p:Option Addr)(v:Value)(s:List UInt8)(T:Option z6)(w:World)(x:Ending)(w':World):Prop:=
 x= .returned v/\xq lo w' gw s p T/\tC lo w w'
theorem Bg:(prog.info? 101).map (·.size)=some 1:=by kernel_rfl
theorem P9{Q:TypeId}(sl y:Operand)(ho:o.op= .call {callee:=.builtin .append,args:= #[sl,y],argTypes:= #[101,9]})(hty:o.type=Q)(hs:a.eval sl=v)(hy:a.eval y= .string (bs x))
  (hr:(Builtin.append_ #[101,9] Q #[v,.string (bs x)]).run prog w= .ok v' w'):(execOp a.eval o).run prog w= .ok (.value v') w':=by
 exact nJ
theorem Qd(lo gw:Nat)(s:List UInt8)(p:Option Addr)(T:Option z6)(width n:Int)(w:World)(hW:xq lo w gw s p T)(rH:lo<=w.heap.size)(E:s.length<=10000000):
  Calls prog 139 #[.pointer (some ⟨gw,0,none⟩),.int .i64 width,.int .i64 n] w (GN lo gw p (.tuple #[]) (s++rP (hw width) n) T w):=by
 obtain⟨A,c,U,F,h3,h4⟩:=hW;have P:=J (fun w=>tK width n w);have xl:(rP (hw width) n).length<=4:=by rw[rL];exact YE width
 generalize rP (hw width) n=x at*;go_enter func139,ntmps139;go_wp2_with fail;refine wp_region_held_drew (S:=fun _=>True) (by kernel_rfl) trivial (fun hS=>?_);have hD:Below w.heap.size w w.drew:=ix
 (refine ah 0 (some 6) I I (by kernel_rfl) (fun W hW=>rfl) hS ?_;simp only[X])
 (refine ah 1 (some 7) I I (by kernel_rfl) (fun W hW=>rfl) hS ?_;simp only[X])
 (refine ah 2 (some 8) I I (by kernel_rfl) (fun W hW=>rfl) hS ?_;simp only[X])
 (refine ah 3 (some 9) I I (by kernel_rfl) (fun W hW=>rfl) hS ?_;simp only[X])
 (refine ah 5 (some 11) I I (by kernel_rfl) (fun W hW=>rfl) hS ?_;simp only[X])
 (refine ah 6 (some 12) I I (by kernel_rfl) (fun W hW=>rfl) hS ?_;simp only[X])
 refine uZ 4 7 (by kernel_rfl) ?_ ?_
 ·
  refine uj 4 (some 10) 101 (.tmp 9) ⟨gw,0,none⟩ I I I I (by kernel_rfl) (rQ underlying101 I (F.rD 0 I)) ?_;refine⟨trivial,?_⟩;simp only[X];refine rV 7 (by kernel_rfl) ?_;refine sZ 7 (some 13) 136 #[.int .i64 width,.int .i64 n] I I (by kernel_rfl) bc (P.out _) ?_;rintro _ B ⟨rfl,b1⟩;replace b1:=hD.trans b1;refine⟨_,I,trivial,?_⟩;simp only[X];obtain⟨v',w2,hr,k1,g1⟩:=IE B 101 lo _ s x (h3.G b1) (Nat.le_trans rH b1.size) Y;obtain⟨A',c',rfl⟩:=k1.form;refine rV 8 (by kernel_rfl) ?_;refine sx 8 (some 14) I I (by kernel_rfl) (P9 (.tmp 10) (.tmp 13) I I I I hr) ?_;refine⟨trivial,?_⟩;simp only[X]
  (refine ah 9 (some 15) I I (by kernel_rfl) (fun W hW=>rfl) hS ?_;simp only[X])
  (refine ah 10 (some 16) I I (by kernel_rfl) (fun W hW=>rfl) hS ?_;simp only[X])
  refine rV 11 (by kernel_rfl) ?_;have B2:=(F.G b1 F.lt).grown g1 ((h3.G b1).ne (F.G b1 F.lt) K);refine ur 11 101 (.tmp 16) (.tmp 14) I I I (by kernel_rfl) gw 0 I _ I B2 ar Bg I I ?_;intro w3 hb3 hg3 hs3;refine⟨trivial,?_⟩;simp only[X];refine wpAnyH_done (by kernel_rfl) ?_ _;exact oe
 ·
  refine sZ 7 (some 13) 136 #[.int .i64 width,.int .i64 n] I I (by kernel_rfl) bc (P.out _) ?_;rintro _ B ⟨rfl,b1⟩;replace b1:=hD.trans b1;refine⟨_,I,trivial,?_⟩;simp only[X];refine rV 4 (by kernel_rfl) ?_;refine uj 4 (some 10) 101 (.tmp 9) ⟨gw,0,none⟩ I I I I (by kernel_rfl) (rQ underlying101 I ((F.G b1 F.lt).rD 0 I)) ?_;refine⟨trivial,?_⟩;simp only[X];obtain⟨v',w2,hr,k1,g1⟩:=IE B 101 lo _ s x (h3.G b1) (Nat.le_trans rH b1.size) Y;obtain⟨A',c',rfl⟩:=k1.form;refine rV 8 (by kernel_rfl) ?_;refine sx 8 (some 14) I I (by kernel_rfl) (P9 (.tmp 10) (.tmp 13) I I I I hr) ?_;refine⟨trivial,?_⟩;simp only[X]
  (refine ah 9 (some 15) I I (by kernel_rfl) (fun W hW=>rfl) hS ?_;simp only[X])
  (refine ah 10 (some 16) I I (by kernel_rfl) (fun W hW=>rfl) hS ?_;simp only[X])
  refine rV 11 (by kernel_rfl) ?_;have B2:=(F.G b1 F.lt).grown g1 ((h3.G b1).ne (F.G b1 F.lt) K);refine ur 11 101 (.tmp 16) (.tmp 14) I I I (by kernel_rfl) gw 0 I _ I B2 ar Bg I I ?_;intro w3 hb3 hg3 hs3;refine⟨trivial,?_⟩;simp only[X];refine wpAnyH_done (by kernel_rfl) ?_ _;exact oe
theorem Lw(lo gw:Nat)(s:List UInt8)(p:Option Addr)(T:Option z6)(An:Option Addr)(cn:Nat)(n:List (List UInt8))(w:World)(hW:xq lo w gw s p T)(hN:wA w An cn n)(rH:lo<=w.heap.size)(E:s.length<=10000000)(hf:xP T 900000):
  Calls prog 138 #[.pointer (some ⟨gw,0,none⟩),.slice An n.length cn] w (GN lo gw p (.int .i64 (rR n)) (s++sC T s.length n) (tz T s.length n) w):=by
 obtain⟨A,c,U,F,h3,h4⟩:=hW;have P:=J (fun w' (b:ao w w')=>EE lo p T An cn n (s.length:Int) w' (Nat.le_trans rH b.size) (h4.G b) (hN.G b) hf);have xl:=vC T (s.length:Int) n;generalize sC T (s.length:Int) n=x at*;generalize tz T (s.length:Int) n=T' at*;generalize rR n=e at*;generalize n.length=nl at*;clear hN hf h4;go_enter func138,ntmps138;go_wp2_with fail;refine wp_region_held_drew (S:=fun W=>N W gw 214 [.slice A s.length c,.pointer p]) (by kernel_rfl) F.drew (fun hS=>?_);have hD:Below w.heap.size w w.drew:=ix
 (refine ah 0 (some 8) I I (by kernel_rfl) (fun W hW=>rfl) hS ?_;simp only[X])
 (refine ah 1 (some 9) I I (by kernel_rfl) (fun W hW=>rfl) hS ?_;simp only[X])
 (refine ah 2 (some 10) I I (by kernel_rfl) (fun W hW=>rfl) hS ?_;simp only[X])
 refine uW 3 (some 11) 212 (.tmp 10) ⟨gw,1,none⟩ I I I I (by kernel_rfl) (by kernel_rfl) (by kernel_rfl) (fun _ _ _ h=>h) (by kernel_rfl) (fun W hW=>rQ underlying212 I (hW.rD 1 I)) hS ?_;simp only[X]
 (refine ah 4 (some 12) I I (by kernel_rfl) (fun W hW=>rfl) hS ?_;simp only[X])
 (refine ah 5 (some 13) I I (by kernel_rfl) (fun W hW=>rfl) hS ?_;simp only[X])
 (refine ah 6 (some 14) I I (by kernel_rfl) (fun W hW=>rfl) hS ?_;simp only[X])
 (refine ah 7 (some 15) I I (by kernel_rfl) (fun W hW=>rfl) hS ?_;simp only[X])
 refine uW 8 (some 16) 101 (.tmp 15) ⟨gw,0,none⟩ I I I I (by kernel_rfl) (by kernel_rfl) (by kernel_rfl) (fun _ _ _ h=>h) (by kernel_rfl) (fun W hW=>rQ underlying101 I (hW.rD 0 I)) hS ?_;simp only[X];refine ah 9 (some 17) (v:=.int .i64 (s.length:Int)) I I (by kernel_rfl) (fun W hW=>by go_simp) hS ?_;simp only[X];refine su 10 (some 18) 155 #[.pointer p,.slice An nl cn,.int .i64 (s.length:Int)] (by kernel_rfl) I I (by kernel_rfl) bc (P.out _ hD) ?_;rintro _ B ⟨rfl,hT1,hK1⟩;have B1:=hK1.sD F.drew;have O1:yx B lo (.slice A s.length c) s:=by
  rcases h3 with hn|⟨g,cap,cur,fz,hv,hB,hh,rest⟩
  ·exact .inl hn
  ·exact .inr ⟨g,cap,cur,fz,hv,hB,hK1.2 g _ cur fz hh,rest⟩
 have K1:tC lo w B:=(tC.Bc hD rH).trans (tC.Zx hK1);have aph:=K1.size rH;refine⟨_,I,B1,?_⟩;clear hS hK1 P hD F h3;have hS:=B1;simp only[X]
 (refine ah 11 (some 7) I I (by kernel_rfl) (fun W hW=>rfl) hS ?_;simp only[X])
 (refine ah 12 (some 19) I I (by kernel_rfl) (fun W hW=>rfl) hS ?_;simp only[X])
 (refine ah 13 (some 20) I I (by kernel_rfl) (fun W hW=>rfl) hS ?_;simp only[X])
 (refine ah 14 (some 5) I I (by kernel_rfl) (fun W hW=>rfl) hS ?_;simp only[X])
 (refine ah 15 (some 6) I I (by kernel_rfl) (fun W hW=>rfl) hS ?_;simp only[X])
 refine wpAnyH_done (by kernel_rfl) ?_ _;clear hS;have c0:=B1.rD 0 I;go_wp2_with(at_builtin;go_must(refine Ex _ I (.tmp 25) (.tmp 26) I lo _ s x I O1 aph I Y ?_));intro A' c' w2 k1 g1;have B2:=B1.grown g1 (O1.ne B1 K);clear c0;go_wp2_with(refine rF (.store 101 (.tmp 29) (.tmp 27)) I (af I gw 0 _ B2 ar Bg ?_));intro w3 hb3 hg3 hs3;rw[<-List.length_append]at hb3 k1;obtain⟨R1,R2⟩:=NT (x:=x) aph U B1 O1 hT1 k1 g1 hb3 hg3;have R3:=K1.trans R2;clear hb3 hg3 hs3 B2 g1 k1 R2 B1 O1;exact ry
theorem tC.afK(h:tC lo w w')(Z:N w g 160 cs):N w' g 160 cs:=h.2 g _ cs Z K K
theorem tC.aco(h:tC lo w w')(Z:N w g 201 cs):N w' g 201 cs:=h.2 g _ cs Z K K
theorem Ap(lo gw:Nat)(s:List UInt8)(p:Option Addr)(T:Option z6)(n:Int)(w:World)(hW:xq lo w gw s p T)(rH:lo<=w.heap.size)(E:s.length<=10000000):
  Calls prog 139 #[.pointer (some ⟨gw,0,none⟩),.int .i64 2,.int .i64 n] w (GN lo gw p (.tuple #[]) (s++rP 2 n) T w):=Qd lo gw s p T 2 n w hW rH E
theorem WE(lo gw:Nat)(s:List UInt8)(p:Option Addr)(T:Option z6)(n:Int)(w:World)(hW:xq lo w gw s p T)(rH:lo<=w.heap.size)(E:s.length<=10000000):
  Calls prog 139 #[.pointer (some ⟨gw,0,none⟩),.int .i64 4,.int .i64 n] w (GN lo gw p (.tuple #[]) (s++rP 4 n) T w):=Qd lo gw s p T 4 n w hW rH E
theorem Kx(lo gw:Nat)(st:WS)(p:Option Addr)(An:Option Addr)(cn:Nat)(q:Qn)(w0 w:World)(hW:xq lo w gw st.1 p st.2)(hN:wA w0 An cn q.name)(h0:w0.heap.size<=lo)(hb0:ao w0 w)(rH:lo<=w.heap.size)(E:st.1.length<=5000000)(hf:xP st.2 900000):
  Calls prog 124 #[.pointer (some ⟨gw,0,none⟩),.agg (qC (.slice An q.name.length cn) q).toArray] w (GN lo gw p (.int .i64 (rR q.name)) (uk st q).1 (uk st q).2 w):=by
 have P:=J (fun w' (b:ao w w')=>Lw lo gw st.1 p st.2 An cn q.name w' (hW.G b) ((hN.G hb0).G b) (Nat.le_trans rH b.size) Y hf);have xl:=vC st.2 (st.1.length:Int) q.name;have y1:=rL 2 q.Q;obtain⟨s',hs'⟩:∃s',s'=(uk st q).1:=gh;rw[<-hs'];have HS:=J hs';clear hs';replace HS:Hid (s'=st.1++sC st.2 st.1.length q.name++rP 2 q.Q++rP 2 q.cl):=HS;have hT':(uk st q).2=tz st.2 st.1.length q.name:=rfl;rw[hT'];clear hT';have N1:=J (fun w' (hW:xq lo w' gw (st.1++sC st.2 st.1.length q.name) p (tz st.2 st.1.length q.name)) (rH:lo<=w'.heap.size)=>Ap lo gw _ p _ q.Q w' hW rH aB);have N2:=J (fun w' (hW:xq lo w' gw (st.1++sC st.2 st.1.length q.name++rP 2 q.Q) p (tz st.2 st.1.length q.name)) (rH:lo<=w'.heap.size)=>Ap lo gw _ p _ q.cl w' hW rH (by simp[y1];omega));generalize st.1++sC st.2 st.1.length q.name++rP 2 q.Q++rP 2 q.cl=s3 at*;obtain rfl:=HS.out;clear HS;generalize st.1++sC st.2 st.1.length q.name++rP 2 q.Q=s2 at*;generalize st.1++sC st.2 st.1.length q.name=s1 at*;generalize tz st.2 st.1.length q.name=T1 at*;generalize rR q.name=e at*;unfold qC;generalize q.name.length=nl,q.Q=Q,q.cl=cl at*;clear hN hb0 hf hW xl y1;have B0:=N.new w 160 [.slice An nl cn,.int .i64 Q,.int .i64 cl];have HB0:Below w.heap.size w (w.alloc (.cells #[.slice An nl cn,.int .i64 Q,.int .i64 cl] 160)):=fZ;have c0:=B0.rD 0 I;go_enter func124,ntmps124;go_wp2_with fail;refine(P.out _ HB0).mono ?_;rintro _ B ⟨rfl,W1,K1⟩;have B1:=K1.afK B0;have K1':tC lo w B:=(tC.Bc HB0 rH).trans K1;clear c0 P K1 B0 HB0;have c1:=B1.rD 1 I;go_wp2_with fail;refine(N1.out _ W1 (K1'.size rH)).mono ?_;rintro _ w2 ⟨rfl,W2,K2⟩;have B2:=K2.afK B1;have K2':tC lo w w2:=K1'.trans K2;clear c1 N1 K2 B1 K1' W1;have c2:=B2.rD 2 I;go_wp2_with fail;refine(N2.out _ W2 (K2'.size rH)).mono ?_;rintro _ w3 ⟨rfl,W3,K3⟩;have K3':tC lo w w3:=K2'.trans K3;clear c2 N2 K3 B2 K2' W2;go_wp2_with fail;go_ret;exact⟨I,W3,K3'⟩
theorem Qe(lo gw:Nat)(s:List UInt8)(p:Option Addr)(T:Option z6)(e:Int)(w:World)(hW:xq lo w gw s p T)(E:s.length<=10000000):
  Calls prog 123 #[.pointer (some ⟨gw,0,none⟩),.int .i64 e] w (uQ (.int .i64 (if e=0/\65535<s.length then 3 else e)) w):=by
 obtain⟨A,c,U,F,h3,h4⟩:=hW;have c0:=F.rD 0 I;by_cases he:e=0
 ·
  have e1:(e==0)=true:=iu;by_cases hs:65535<s.length
  ·have e2:(65535:Int)<s.length:=Y;rw[if_pos ⟨he,hs⟩];go_enter func123,ntmps123;exact mV
  ·have e2:¬(65535:Int)<s.length:=Y;rw[if_neg (fun h=>hs h.2)];go_enter func123,ntmps123;exact mV
 ·have e1:(e==0)=false:=iu;rw[if_neg (fun h=>he h.1)];clear he;go_enter func123,ntmps123;exact mV
theorem Lx{r:RR}(hw:r.wf)(hc:r8 r=0)(T:Option z6)(rU:Int):(xQ T rU r).length<=70000:=by
 have hE:=(Ic hc).2;have h16:=hw.1;have h5:=hw.2;unfold xQ;unfold wT at hE;split
 ·simp;omega
 split
 ·omega
 split
 ·have:=vC T rU r.tg;omega
 split
 ·have:=vC none 0 r.tg;have e:sC none 0 r.tg=xn r.tg:=rfl;rw[e]at this;simp[rL];omega
 split
 ·
  have a1:=vC T rU r.tg;have a2:=vC (tz T rU r.tg) (rU+(sC T rU r.tg).length) r.ml;have a3:(r.abY.flatMap (rP 4)).length=20:=by
   match r.abY,h5 with
   |[a,b,c,d,e],_=>simp[rL]
  simp only[List.length_append];omega
 ·
  rw[if_neg ‹_›,if_neg ‹_›,if_neg ‹_›,if_neg ‹_›,if_neg ‹_›]at hE;by_cases h:65535<r.raw.length
  ·rw[if_pos h]at hE;cases hE
  ·omega
theorem Cu(lo gw:Nat)(st:WS)(p:Option Addr)(cs:List Value)(r:RR)(w0 w:World)(hW:xq lo w gw st.1 p st.2)(hR:yJ w0 cs r)(h0:w0.heap.size<=lo)(hb0:ao w0 w)(rH:lo<=w.heap.size)(E:st.1.length<=500000)(hf:xP st.2 700000)(hc:r8 r=0):
  Calls prog 126 #[.pointer (some ⟨gw,0,none⟩),.agg cs.toArray] w (GN lo gw p (.int .i64 0) (r7 st r).1 (r7 st r).2 w):=by
 have auY:=(Ic hc).1;obtain⟨An,cn,L0,hN,hwf,hcl⟩:∃An cn,cs[0]?=some (.slice An r.name.length cn)/\wA w0 An cn r.name/\r.wf/\cs.length=33:=by obtain⟨An,cn,At,ct,Am,cm,rfl,hr,hN,_⟩:=hR;exact⟨An,cn,I,hN,hr,uu hr⟩
 have L1:cs[1]?=some (.int .i64 r.Q):=ir;have L2:cs[2]?=some (.int .i64 r.cl):=ir;have L3:cs[3]?=some (.int .i64 r.ttl):=ir;have P:=J (fun w' (b:ao w w')=>Lw lo gw st.1 p st.2 An cn r.name w' (hW.G b) ((hN.G hb0).G b) (Nat.le_trans rH b.size) Y (fun T' h=>Nat.le_trans (hf T' h) Y));rw[auY]at P;have xl:=vC st.2 (st.1.length:Int) r.name;have y1:=rL 2 r.Q;have y2:=rL 2 r.cl;have y3:=rL 4 r.ttl;have hfT:xP (zz st r) 800000:=fun T' h=>Nat.le_trans ((hf.put _ _) T' h) Y
 have hsl:(xF st r).length<=501000:=by simp only[xF,List.length_append];omega
 have hdl:=Lx hwf hc (zz st r) ((xF st r).length+2);have D:=J (fun w' (b:Below lo w w') (api:lo<=w'.heap.size) (hT':Be lo w' p (zz st r))=>Zm lo cs r ((xF st r).length+2) p (zz st r) w0 w' hR h0 (hb0.trans (b.mono h0)) api hT' hfT Y Y);have er1:PY (zz st r) ((xF st r).length+2) r=yA st r:=by unfold PY;rw[if_pos hc];rfl
 have er2:PZ (zz st r) ((xF st r).length+2) r=(r7 st r).2:=by unfold PZ;rw[if_pos hc];rfl
 rw[er1,er2,hc]at D;replace hdl:(yA st r).length<=70000:=hdl;have hs':(r7 st r).1=xF st r++rP 2 (yA st r).length++yA st r:=rfl;have y4:=rL 2 ((yA st r).length:Int);rw[hs'];have N1:=J (fun w' (hW:xq lo w' gw (st.1++sC st.2 st.1.length r.name) p (zz st r)) (rH:lo<=w'.heap.size)=>Ap lo gw _ p _ r.Q w' hW rH aB);have N2:=J (fun w' (hW:xq lo w' gw (st.1++sC st.2 st.1.length r.name++rP 2 r.Q) p (zz st r)) (rH:lo<=w'.heap.size)=>Ap lo gw _ p _ r.cl w' hW rH aB);have N3:=J (fun w' (hW:xq lo w' gw (st.1++sC st.2 st.1.length r.name++rP 2 r.Q++rP 2 r.cl) p (zz st r)) (rH:lo<=w'.heap.size)=>WE lo gw _ p _ r.ttl w' hW rH aB);have N4:=J (fun w' (hW:xq lo w' gw (xF st r) p (r7 st r).2) (rH:lo<=w'.heap.size)=>Ap lo gw _ p _ ((yA st r).length:Int) w' hW rH Y);have aKZ:(xF st r++rP 2 (yA st r).length).length<=600000:=cK;clear hs' er1 er2 hfT hR hf hN hb0 hW hwf hc;change Hid (∀w':World,xq lo w' gw (st.1++sC st.2 st.1.length r.name++rP 2 r.Q++rP 2 r.cl) p (zz st r)->lo<=w'.heap.size->Calls prog 139 #[.pointer (some ⟨gw,0,none⟩),.int .i64 4,.int .i64 r.ttl] w' (GN lo gw p (.tuple #[]) (xF st r) (zz st r) w'))at N3;change Hid (∀w':World,ao w w'->Calls prog 138 #[.pointer (some ⟨gw,0,none⟩),.slice An r.name.length cn] w' (GN lo gw p (.int .i64 0) (st.1++sC st.2 st.1.length r.name) (zz st r) w'))at P;generalize(r7 st r).2=T2 at*;generalize yA st r=d at*;generalize xF st r=s4 at*;generalize zz st r=T1 at*;generalize st.1++sC st.2 st.1.length r.name++rP 2 r.Q++rP 2 r.cl=s3 at*;generalize st.1++sC st.2 st.1.length r.name++rP 2 r.Q=s2 at*;generalize st.1++sC st.2 st.1.length r.name=s1 at*;generalize r.name.length=nl,r.Q=Q at*;generalize r.cl=cl,r.ttl=ttl at*;clear xl y1 y2 y3;have B0:=N.new w 201 cs;have HB0:Below w.heap.size w (w.alloc (.cells cs.toArray 201)):=fZ;have c0:=B0.rD 0 L0;go_enter func126,ntmps126;go_wp2_with fail;refine(P.out _ HB0).mono ?_;rintro _ B ⟨rfl,W1,K1⟩;have B1:=K1.aco B0;have K1':tC lo w B:=(tC.Bc HB0 rH).trans K1;clear c0 P K1 B0 HB0 L0;have c1:=B1.rD 1 L1;go_wp2_with fail;refine(N1.out _ W1 (K1'.size rH)).mono ?_;rintro _ w2 ⟨rfl,W2,K2⟩;have B2:=K2.aco B1;have K2':tC lo w w2:=K1'.trans K2;clear c1 N1 K2 B1 K1' W1 L1;have c2:=B2.rD 2 L2;go_wp2_with fail;refine(N2.out _ W2 (K2'.size rH)).mono ?_;rintro _ w3 ⟨rfl,W3,K3⟩;have B3:=K3.aco B2;have K3':tC lo w w3:=K2'.trans K3;clear c2 N2 K3 B2 K2' W2 L2;have c3:=B3.rD 3 L3;go_wp2_with fail;refine(N3.out _ W3 (K3'.size rH)).mono ?_;rintro _ w4 ⟨rfl,W4,K4⟩;have B4:=K4.aco B3;have K4':tC lo w w4:=K3'.trans K4;have aif:=K4'.size rH;clear c3 N3 K4 B3 K3' W3 L3;obtain⟨A,c,U,F,h3,h4⟩:=W4;go_wp2_with fail;have hw1:IntKind.i64.wrap ((s4.length:Int)+2)=(s4.length:Int)+2:=kt;refine wp_region_held_drew (S:=fun W=>N W gw 214 [.slice A s4.length c,.pointer p]/\N W w.heap.size 201 cs) (by kernel_rfl) ⟨F.drew,B4.drew⟩ (fun hS=>?_);have hD:Below w4.heap.size w4 w4.drew:=ix;refine uW 0 (some 28) 201 (.tmp 3) ⟨w.heap.size,0,none⟩ I I I I (by kernel_rfl) (by kernel_rfl) (by kernel_rfl) (fun _ _ _ h=>h) (by kernel_rfl) (fun W hW=>hW.2.tW 201 0 33 Y _ underlying201 I ta cs (uH Y)) hS ?_;simp only[X]
 (refine ah 1 (some 29) I I (by kernel_rfl) (fun W hW=>rfl) hS ?_;simp only[X])
 (refine ah 2 (some 30) I I (by kernel_rfl) (fun W hW=>rfl) hS ?_;simp only[X])
 (refine ah 3 (some 31) I I (by kernel_rfl) (fun W hW=>rfl) hS ?_;simp only[X])
 refine uW 4 (some 32) 101 (.tmp 31) ⟨gw,0,none⟩ I I I I (by kernel_rfl) (by kernel_rfl) (by kernel_rfl) (fun _ _ _ h=>h) (by kernel_rfl) (fun W hW=>rQ underlying101 I (hW.1.rD 0 I)) hS ?_;simp only[X];refine ah 5 (some 33) (v:=.int .i64 (s4.length:Int)) I I (by kernel_rfl) (fun W hW=>by go_simp) hS ?_;simp only[X];refine ah 6 (some 34) (v:=.int .i64 ((s4.length:Int)+2)) I I (by kernel_rfl) (fun W hW=>by go_simp) hS ?_;simp only[X]
 (refine ah 7 (some 35) I I (by kernel_rfl) (fun W hW=>rfl) hS ?_;simp only[X])
 (refine ah 8 (some 36) I I (by kernel_rfl) (fun W hW=>rfl) hS ?_;simp only[X])
 (refine ah 9 (some 37) I I (by kernel_rfl) (fun W hW=>rfl) hS ?_;simp only[X])
 refine uW 10 (some 38) 212 (.tmp 37) ⟨gw,1,none⟩ I I I I (by kernel_rfl) (by kernel_rfl) (by kernel_rfl) (fun _ _ _ h=>h) (by kernel_rfl) (fun W hW=>rQ underlying212 I (hW.1.rD 1 I)) hS ?_;simp only[X];refine su 11 (some 39) 140 #[.agg cs.toArray,.int .i64 ((s4.length:Int)+2),.pointer p] (by kernel_rfl) I I (by kernel_rfl) bc (D.out _ (K4'.1.trans (hD.mono aif)) (Nat.le_trans aif hD.size) (h4.G hD)) ?_;rintro _ w5 ⟨rfl,hT5,hK5⟩;have B5:=hK5.sD F.drew;have O5:yx w5 lo (.slice A s4.length c) s4:=by
  rcases h3 with hn|⟨g,cap,cur,fz,hv,hB,hh,rest⟩
  ·exact .inl hn
  ·exact .inr ⟨g,cap,cur,fz,hv,hB,hK5.2 g _ cur fz hh,rest⟩
 have K5:tC lo w w5:=(K4'.trans (tC.Bc hD aif)).trans (tC.Zx hK5);have anz:=K5.size rH;refine⟨_,I,⟨B5,hK5.sD B4.drew⟩,?_⟩;replace hS:N w5 gw 214 [.slice A s4.length c,.pointer p]/\N w5 w.heap.size 201 cs:=⟨B5,hK5.sD B4.drew⟩;clear hK5 D hD F h3 h4 B4 K4' aif;simp only[X]
 (refine ah 12 (some 27) I I (by kernel_rfl) (fun W hW=>rfl) hS ?_;simp only[X])
 (refine ah 13 (some 40) I I (by kernel_rfl) (fun W hW=>rfl) hS ?_;simp only[X])
 (refine ah 14 (some 41) I I (by kernel_rfl) (fun W hW=>rfl) hS ?_;simp only[X])
 refine ah 15 (some 6) (v:=.string (bs d)) I I (by kernel_rfl) (fun W hW=>rfl) hS ?_;simp only[X];refine ah 16 (some 7) (v:=.int .i64 0) I I (by kernel_rfl) (fun W hW=>rfl) hS ?_;simp only[X];refine wpAnyH_done (by kernel_rfl) ?_ _;clear hS;have W5:xq lo w5 gw s4 p T2:=⟨A,c,U,B5,O5,hT5⟩;clear B5 O5 hT5 hw1;go_wp2_with fail;refine(N4.out _ W5 anz).mono ?_;rintro _ w6 ⟨rfl,W6,K6⟩;have K6':=K5.trans K6;have anx:=K6'.size rH;clear K6 K5 W5 N4 anz;generalize s4++rP 2 (d.length:Int)=s5 at*;obtain⟨A,c,U,F,h3,h4⟩:=W6;have c0:=F.rD 0 I;go_wp2_with(at_builtin;go_must(refine Ex _ I (.tmp 50) (.tmp 51) I lo _ s5 d I h3 anx I Y ?_));intro A' c' w7 k1 g1;have B7:=F.grown g1 (h3.ne F K);clear c0;go_wp2_with(refine rF (.store 101 (.tmp 54) (.tmp 52)) I (af I gw 0 _ B7 ar Bg ?_));intro w8 hb8 hg8 hs8;rw[<-List.length_append]at hb8 k1;obtain⟨R1,R2⟩:=NT (x:=d) anx U F h3 h4 k1 g1 hb8 hg8;have R3:=K6'.trans R2;clear hb8 hg8 hs8 B7 g1 k1 R2 F h3 h4;exact ry
end Go.Proofs.YtakkipnmpmobbaaGreat
