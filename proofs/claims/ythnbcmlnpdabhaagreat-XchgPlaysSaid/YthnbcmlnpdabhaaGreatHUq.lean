/-
  Messages:as data,as cells,as octets.
-/
import Derived.Test.YthnbcmlnpdabhaaGreatHSq
import Derived.Test.YthnbcmlnpdabhaaGreatHTq
namespace Go.Proofs.YthnbcmlnpdabhaaGreat
open _root_.Go.Proofs.Tryz
set_option maxHeartbeats 8000000
open Go.RowKit
set_option maxRecDepth 100000
set_option linter.unusedVariables false
set_option linter.unusedSimpArgs false
variable {w w' w1 w2:World} {b lo gw g:Nat} {o:Oper} {cs:List Value} {A p:Option Addr} {v v':Value} {P:Program} {ops:Array Oper} {rest:List Oper} {a:Act} {s x:List UInt8}
structure Qn where
 name:List (List UInt8)
 O:Int
 N:Int
deriving DecidableEq
structure vU where
 hd:Hd
 qs:List Qn
 an:List RR
 au:List RR
 ex:List RR
deriving DecidableEq
def vU.Cq(m:vU):List RR:=m.an++m.au++m.ex
def yk:List Int->Int
 |[]=>0
 |e::l=>if e≠0 then e else yk l
theorem PJ{l:List Int}(h:∀j (hj:j<l.length),l[j]=0):yk l=0:=by
 induction l with
 |nil=>rfl
 |cons e l ih=>have h0:e=0:=h 0 ap;unfold yk;exact tm
theorem ZI{l:List Int}{k:Nat}(z:k<l.length)(h:∀j (hj:j<l.length),j<k->l[j]=0)(Z:l[k]≠0):yk l=l[k]:=by
 induction l generalizing k with
 |nil=>simp at z
 |cons e l ih=>
  cases k with
  |zero=>simp only[List.getElem_cons_zero]at Z⊢;unfold yk;rw[if_pos Z]
  |succ k=>have h0:e=0:=h 0 ap I;unfold yk;exact sx
theorem Sg(a b:List Int):yk (a++b)=if yk a≠0 then yk a else yk b:=by
 induction a with
 |nil=>simp[yk]
 |cons e a ih=>
  by_cases h:e=0
  ·simp[yk,h,ih]
  ·simp[yk,h]
def qE(q:Qn):Int:=if uE q.name≠0 then uE q.name else if yo 65535 q.O&&yo 65535 q.N then 0 else 4
def wH(m:vU):Int:=
 if m.hd.ok=false then 4
 else if 65535<m.qs.length\/65535<m.an.length\/65535<m.au.length\/65535<m.ex.length then 3
 else if yk (m.qs.map qE)≠0 then yk (m.qs.map qE)
 else yk (m.Cq.map uN)
abbrev WS:=List UInt8×Option Co
def wg(st:WS)(q:Qn):WS:=(st.1++vh st.2 st.1.length q.name++uA 2 q.O++uA 2 q.N,vL st.2 st.1.length q.name)
def yU(st:WS)(r:RR):List UInt8:=st.1++vh st.2 st.1.length r.name++uA 2 r.O++uA 2 r.N++uA 4 r.ak
def zY(st:WS)(r:RR):Option Co:=vL st.2 st.1.length r.name
def zp(st:WS)(r:RR):List UInt8:=yT (zY st r) ((yU st r).length+2) r
def uF(st:WS)(r:RR):WS:=(yU st r++uA 2 (zp st r).length++zp st r,El (zY st r) ((yU st r).length+2) r)
def xq(m:vU)(pack:Bool):WS:=(xC m.hd m.qs.length m.an.length m.au.length m.ex.length,if pack then some []else none)
def Eo(m:vU)(pack:Bool):WS:=m.Cq.foldl uF (m.qs.foldl wg (xq m pack))
def vN(m:vU)(pack:Bool):List UInt8×Int:=
 if wH m≠0 then([],wH m)else if 65535<(Eo m pack).1.length then([],3)else((Eo m pack).1,0)
theorem ZJ(st:WS)(q:Qn):st.1.length<=(wg st q).1.length:=by simp[wg]
theorem UL(st:WS)(r:RR):st.1.length<=(uF st r).1.length:=by simp[uF,yU]
theorem Od(l:List Qn):∀st:WS,st.1.length<=(l.foldl wg st).1.length:=by
 induction l with
 |nil=>intro st;exact Nat.le_refl _
 |cons q l ih=>intro st;exact Nat.le_trans (ZJ st q) (ih _)
theorem zR(l:List RR):∀st:WS,st.1.length<=(l.foldl uF st).1.length:=by
 induction l with
 |nil=>intro st;exact Nat.le_refl _
 |cons q l ih=>intro st;exact Nat.le_trans (UL st q) (ih _)
def qC(v:Value)(q:Qn):List Value:=[v,.int .i64 q.O,.int .i64 q.N]
def yF(h:Hd)(vq va vu ve:Value):List Value:=h.ww++[vq,va,vu,ve]
theorem zc(h:Hd)(vq va vu ve:Value):(yF h vq va vu ve).length=14:=rfl
theorem Ah(h:Hd){vq va vu ve:Value}(U:vq.oneCell'=true)(X:va.oneCell'=true)(h3:vu.oneCell'=true)(h4:ve.oneCell'=true):∀v∈yF h vq va vu ve,v.oneCell'=true:=by
 intro v hv;simp only[yF,Hd.ww,List.mem_append,List.mem_cons,List.not_mem_nil,or_false]at hv;rcases hv with(rfl|rfl|rfl|rfl|rfl|rfl|rfl|rfl|rfl|rfl)|rfl|rfl|rfl|rfl<;>first|rfl|assumption
theorem uW:(prog.info? 50).map (·.size)=some 14:=by kernel_rfl
theorem CO:(prog.info? 46).map (·.size)=some 10:=by kernel_rfl
theorem xu:(prog.info? 28).map (·.size)=some 3:=by kernel_rfl
def QsR(w:World)(A:Option Addr)(l:List Qn):Prop:=0<l.length->∃b off,A=some ⟨b,off,none⟩/\b<w.heap.size/\∀i (hi:i<l.length),∃An cn,w.rangeAt b (off+i*3) (qC (.slice An l[i].name.length cn) l[i])/\xE w An cn l[i].name
def LJ(w:World)(A:Option Addr)(l:List RR):Prop:=0<l.length->∃b off,A=some ⟨b,off,none⟩/\b<w.heap.size/\∀i (hi:i<l.length),∃cs,w.rangeAt b (off+i*33) cs/\xJ w cs l[i]
theorem uD{B o:Nat}(h:w.rangeAt b o cs)(Z:Below B w w')(hB:b<B):w'.rangeAt b o cs:=fun j v hv=>(Z.cell hB).trans (h j v hv)
theorem QsR.G{l:List Qn}(h:QsR w A l)(Z:al w w'):QsR w' A l:=by
 intro hl;obtain⟨b,off,U,X,h3⟩:=h hl;refine⟨b,off,U,Nat.lt_of_lt_of_le X Z.size,fun i hi=>?_⟩;obtain⟨An,cn,h4,h5⟩:=h3 i hi;exact⟨An,cn,uD h4 Z X,h5.G Z⟩
theorem LJ.G{l:List RR}(h:LJ w A l)(Z:al w w'):LJ w' A l:=by
 intro hl;obtain⟨b,off,U,X,h3⟩:=h hl;refine⟨b,off,U,Nat.lt_of_lt_of_le X Z.size,fun i hi=>?_⟩;obtain⟨cs,h4,h5⟩:=h3 i hi;exact⟨cs,uD h4 Z X,h5.G Z⟩
structure zB (w:World) (cs:List Value) (m:vU) (Aq Aa Au Ae:Option Addr) (cq ca cu ce:Nat):Prop where
 hS:cs=yF m.hd (.slice Aq m.qs.length cq) (.slice Aa m.an.length ca) (.slice Au m.au.length cu) (.slice Ae m.ex.length ce)
 hq:QsR w Aq m.qs
 ha:LJ w Aa m.an
 hu:LJ w Au m.au
 he:LJ w Ae m.ex
 lq:m.qs.length<=17592186044416
 la:m.an.length<=17592186044416
 lu:m.au.length<=17592186044416
 le:m.ex.length<=17592186044416
theorem zB.G{m:vU}{Aq Aa Au Ae:Option Addr}{cq ca cu ce:Nat}(h:zB w cs m Aq Aa Au Ae cq ca cu ce)(Z:al w w'):zB w' cs m Aq Aa Au Ae cq ca cu ce:=
 ⟨h.hS,h.hq.G Z,h.ha.G Z,h.hu.G Z,h.he.G Z,h.lq,h.la,h.lu,h.le⟩
open Go.ChangeShapes Go.WideShapes Go.ChangeAt Go.RowKit
theorem xz(cs:List Value)(n k m:Nat)(h:m=n+k):cs.drop n=(cs.drop n).take k++cs.drop m:=by
 subst h;rw[<-List.drop_drop,List.take_append_drop]
theorem Wc:∀(cs:List Value),(∀(i:Nat) (hi:i<cs.length),∃b:UInt8,cs[i]= .int .u8 (b.toNat:Int))->∃l:List UInt8,cs=vT l
 |[],_=>⟨[],J⟩
 |c::cs,h=>by
  obtain⟨b,Z⟩:=h 0 ap;obtain⟨l,hl⟩:=Wc cs (fun i hi=>by have:=h (i+1) aG;simpa using this);simp at Z;exact⟨b::l,by rw[Z,hl];rfl⟩
theorem ae3{i:Nat}(hi:i<cs.length)(h:(cs.drop i).take 1=[v]):cs[i]=v:=by
 have:((cs.drop i).take 1)[0]?=some v:=by rw[h];rfl
 rw[List.getElem?_take_of_lt I,List.getElem?_drop,Nat.add_zero,List.getElem?_eq_getElem hi]at this;exact Option.some.inj this
section
variable {H:Type} {enc:TypeId×Value->H} {w:World} {cs:List Value}
theorem yG(h:vH enc prog w 3 cs):∃n:Int,cs=[.int .i64 n]:=by obtain⟨n,e,_⟩:=h.int underlying3;exact⟨n,e⟩
theorem abT(h:vH enc prog w 22 cs):∃l:List UInt8,l.length=16/\cs=vT l:=by
 have c16:prog.cellsOf 22=16:=by kernel_rfl
 have c1:prog.cellsOf 5=1:=by kernel_rfl
 obtain⟨hl,hf⟩:=h.array underlying22;rw[c16]at hl;rw[c1]at hf;obtain⟨l,e⟩:=Wc cs (fun i hi=>by
  obtain⟨n,e,hw⟩:=(hf i I).int underlying5;rw[Nat.mul_one]at e;have e2:=ae3 hi e;simp only[Lit.wf,Bool.and_eq_true,decide_eq_true_eq]at hw;have h0:0<=n:=hw.1;have U:n<=255:=hw.2;refine⟨UInt8.ofNat n.toNat,?_⟩;rw[e2];have e3:(UInt8.ofNat n.toNat).toNat=n.toNat:=by rw[UInt8.toNat_ofNat'];exact Nat.mod_eq_of_lt I
  rw[e3,Int.toNat_of_nonneg h0])
 refine⟨l,?_,e⟩;rw[e,v9]at hl;exact hl
theorem LO(h:vH enc prog w 24 cs):∃a:vG,a.ip.length=16/\cs=a.cells:=by
 have c18:prog.cellsOf 24=18:=by kernel_rfl
 have c1:prog.cellsOf 3=1:=by kernel_rfl
 have c16:prog.cellsOf 22=16:=by kernel_rfl
 obtain⟨hl,hf⟩:=h.struct underlying24;rw[c18]at hl;have h0:vH enc prog w 3 ((cs.drop 0).take (prog.cellsOf 3)):=nJ;have U:vH enc prog w 22 ((cs.drop 1).take (prog.cellsOf 22)):=nI;have X:vH enc prog w 3 ((cs.drop 17).take (prog.cellsOf 3)):=oP;rw[c1]at h0 X;rw[c16]at U;obtain⟨f,e0⟩:=yG h0;obtain⟨ip,i16,e1⟩:=abT U;obtain⟨abx,e2⟩:=yG X;refine⟨⟨f,ip,abx⟩,i16,?_⟩;show cs.drop 0=_;rw[xz cs 0 1 1 J,e0,xz cs 1 16 17 J,e1,xz cs 17 1 18 J,e2,List.drop_of_length_le I];rfl
theorem adV(h:vH enc prog w 28 cs):∃q:Qn,∃An cn,cs=qC (.slice An q.name.length cn) q/\xE w An cn q.name:=by
 have c33:prog.cellsOf 28=3:=by kernel_rfl
 have c1:prog.cellsOf 3=1:=by kernel_rfl
 have cn:prog.cellsOf 26=1:=by kernel_rfl
 obtain⟨hl,hf⟩:=h.struct underlying28;rw[c33]at hl;have h0:vH enc prog w 26 ((cs.drop 0).take (prog.cellsOf 26)):=nJ;have U:vH enc prog w 3 ((cs.drop 1).take (prog.cellsOf 3)):=nI;have X:vH enc prog w 3 ((cs.drop 2).take (prog.cellsOf 3)):=oP;rw[cn]at h0;rw[c1]at U X;obtain⟨An,kn,n,e0,r0⟩:=Lo underlying26 h0;obtain⟨O,e1⟩:=yG U;obtain⟨N,e2⟩:=yG X;refine⟨⟨n,O,N⟩,An,kn,?_,r0⟩;show cs.drop 0=_;rw[xz cs 0 1 1 J,e0,xz cs 1 1 2 J,e1,xz cs 2 1 3 J,e2,List.drop_of_length_le I];rfl
theorem FY(h:vH enc prog w 4 cs):∃b:Bool,cs=[.bool b]:=h.bool underlying4
end
theorem JR(n:Int)(w:World):Calls prog 204 #[.int .i64 n] w (xX (.bool (yo 65535 n)) w):=by
 unfold yo;by_cases h0:0<=n
 ·
  have d0:decide (0<=n)=true:=decide_eq_true h0;by_cases U:n<=65535
  ·have d1:decide (n<=65535)=true:=ly;rw[d0,d1];go_enter func204,ntmps204;exact pv
  ·have d1:decide (n<=65535)=false:=kW;rw[d0,d1];go_enter func204,ntmps204;exact pv
 ·have d0:decide (0<=n)=false:=oU;rw[d0];clear h0;go_enter func204,ntmps204;exact pv
theorem Iu(n:Int)(w:World):Calls prog 160 #[.int .i64 n] w (xX (.bool (!yo 65535 n)) w):=by
 unfold yo;by_cases h0:n<0
 ·have d0:decide (n<0)=true:=decide_eq_true h0;have d1:decide (0<=n)=false:=iz;rw[d1];go_enter func160,ntmps160;exact pv
 ·
  have d0:decide (n<0)=false:=oU;have d1:decide (0<=n)=true:=mM;rw[d1];by_cases U:65535<n
  ·have d2:decide (65535<n)=true:=ly;have d3:decide (n<=65535)=false:=iz;rw[d3];go_enter func160,ntmps160;exact pv
  ·have d2:decide (65535<n)=false:=kW;have d3:decide (n<=65535)=true:=mM;rw[d3];go_enter func160,ntmps160;exact pv
theorem abU(h:Hd)(vq va vu ve:Value):(yF h vq va vu ve)[11]?=some va:=rfl
theorem abV(h:Hd)(vq va vu ve:Value):(yF h vq va vu ve)[12]?=some vu:=rfl
theorem abW(h:Hd)(vq va vu ve:Value):(yF h vq va vu ve)[13]?=some ve:=rfl
theorem Oe(h:Hd)(vq:Value)(Aa Au Ae:Option Addr)(na nu ne ca cu ce:Nat)(w:World):
  Calls prog 170 #[.agg (yF h vq (.slice Aa na ca) (.slice Au nu cu) (.slice Ae ne ce)).toArray] w (uI (.agg #[.slice Aa na ca,.slice Au nu cu,.slice Ae ne ce]) w):=by
 have hl:=zc h vq (.slice Aa na ca) (.slice Au nu cu) (.slice Ae ne ce);have L1:=abU h vq (.slice Aa na ca) (.slice Au nu cu) (.slice Ae ne ce);have L2:=abV h vq (.slice Aa na ca) (.slice Au nu cu) (.slice Ae ne ce);have L3:=abW h vq (.slice Aa na ca) (.slice Au nu cu) (.slice Ae ne ce);generalize yF h vq (.slice Aa na ca) (.slice Au nu cu) (.slice Ae ne ce)=cs at*;have g1:∀hi:11<cs.length,cs[11]'hi= .slice Aa na ca:=xO L1;have g2:∀hi:12<cs.length,cs[12]'hi= .slice Au nu cu:=xO L2;have g3:∀hi:13<cs.length,cs[13]'hi= .slice Ae ne ce:=xO L3;clear L1 L2 L3;go_enter func170,ntmps170;go_wp2_with fail;refine xd J (w.heap.size+1) J (F.wE _ _ [.slice Aa na ca,.slice Au nu cu,.slice Ae ne ce] _ ap) _ underlying281 J (by kernel_rfl) J ?_;exact tC
theorem Xp(m:vU):wH m=if m.hd.ok=false then 4
  else if 65535<m.qs.length\/65535<m.an.length\/65535<m.au.length\/65535<m.ex.length then 3
  else if yk (m.qs.map qE)≠0 then yk (m.qs.map qE)
  else if yk (m.an.map uN)≠0 then yk (m.an.map uN)
  else if yk (m.au.map uN)≠0 then yk (m.au.map uN)else yk (m.ex.map uN):=by
 unfold wH vU.Cq;rw[List.map_append,List.map_append,Sg,Sg];by_cases U:yk (m.an.map uN)=0
 ·simp[U]
 ·simp[U]
theorem FZ{α:Type}(f:α->Int)(l:List α)(h:∀j (hj:j<l.length),f l[j]=0):yk (l.map f)=0:=
 PJ (fun j hj=>by rw[List.getElem_map];exact h j (by simpa using hj))
theorem DR{α:Type}(f:α->Int)(l:List α)(k:Nat)(z:k<l.length)(h:∀j (hj:j<l.length),j<k->f l[j]=0)(Z:f l[k]≠0):yk (l.map f)=f l[k]:=by
 have:=ZI (l:=l.map f) (k:=k) bh (fun j hj hjk=>by rw[List.getElem_map];exact h j (by simpa using hj) hjk) (by rw[List.getElem_map];exact Z);rwa[List.getElem_map]at this
theorem wj{op:Oper}{Q:Exit->Act->World->Prop}(hgd:op.guard=none)(O:TypeId)(x:Operand)(ho:op.op= .load O x)
  (b o:Nat) (hx:a.eval x= .pointer (some ⟨b,o,none⟩)) (cs:List Value) (hc:w.rangeAt b o cs) (d:TypeDesc)
  (hu:P.underlying O=some d) (hd:d.isRow=true) (hi:(P.info? O).map (·.size)=some cs.length)
  (h:wpList P ops Q rest (a.put op.dst (.agg cs.toArray)) w):wpList P ops Q (op::rest) a w:=
 wpList_plain hgd fun hb hK=>wp_load_mid O x ho b o hx cs d hc hu hd hi (hK _ _ h)
theorem xJ.len{r:RR}(h:xJ w cs r):cs.length=33:=by obtain⟨_,_,_,_,_,_,rfl,hr,_⟩:=h;exact vA hr
theorem xJ.one{r:RR}(h:xJ w cs r):∀v∈cs,v.oneCell'=true:=by obtain⟨_,_,_,_,_,_,rfl,hr,_⟩:=h;exact wR J J J
theorem F8:∀{l:List Int},yk l=0->∀e∈l,e=0
 |[],_,e,he=>by cases he
 |x::l,h,e,he=>by
  unfold yk at h;by_cases hx:x=0
  ·
   rw[if_neg (by simp[hx])]at h;rcases List.mem_cons.1 he with rfl|he
   ·exact hx
   ·exact F8 h e he
  ·rw[if_pos hx]at h;exact absurd h hx
structure MOk (m:vU):Prop where
 hd:m.hd.ok=true
 lq:m.qs.length<=65535
 la:m.an.length<=65535
 lu:m.au.length<=65535
 le:m.ex.length<=65535
 q:∀q∈m.qs,uE q.name=0
 r:∀r∈m.Cq,uN r=0
theorem PM{m:vU}(h:wH m=0):MOk m:=by
 unfold wH at h;cases z:m.hd.ok with
 |false=>rw[if_pos z]at h;cases h
 |true=>
  rw[if_neg (by simp[z])]at h;by_cases U:65535<m.qs.length\/65535<m.an.length\/65535<m.au.length\/65535<m.ex.length
  ·rw[if_pos U]at h;cases h
  ·
   rw[if_neg U]at h;by_cases X:yk (m.qs.map qE)=0
   ·
    rw[if_neg (by simp[X])]at h;refine⟨z,I,I,I,I,fun q hq=>?_,fun r hr=>F8 h _ (List.mem_map_of_mem hr)⟩;have:=F8 X _ (List.mem_map_of_mem hq);unfold qE at this;by_cases h3:uE q.name=0
    ·exact h3
    ·rw[if_pos h3]at this;exact this
   ·rw[if_pos X]at h;exact absurd h X
theorem UM(l:List Qn)(k:Nat)(st:WS):((l.take k).foldl wg st).1.length<=(l.foldl wg st).1.length:=by
 conv=>rhs;rw[<-List.take_append_drop k l,List.foldl_append]
 exact Od _ _
theorem UO(l:List RR)(k:Nat)(st:WS):((l.take k).foldl uF st).1.length<=(l.foldl uF st).1.length:=by
 conv=>rhs;rw[<-List.take_append_drop k l,List.foldl_append]
 exact zR _ _
theorem EO{α β:Type}(f:β->α->β)(l:List α)(k:Nat)(z:k<l.length)(st:β):(l.take (k+1)).foldl f st=f ((l.take k).foldl f st) l[k]:=by
 rw[List.take_succ_eq_append_getElem z,List.foldl_append];rfl
theorem zm.mono{T:Option Co}{a:Nat}(h:zm T a)(hab:a<=b):zm T b:=fun T' e=>Nat.le_trans (h T' e) hab
theorem ZK{st:WS}{k:Nat}(h:zm st.2 k)(q:Qn):zm (wg st q).2 (k+254):=h.put _ _
theorem UP{st:WS}{k:Nat}(h:zm st.2 k)(r:RR):zm (uF st r).2 (k+762):=by
 have U:zm (zY st r) (k+254):=h.put _ _;change zm (El (zY st r) ((yU st r).length+2) r) (k+762);unfold El;split
 ·exact(U.put _ _).mono I
 split
 ·exact((U.put _ _).put _ _).mono I
 ·exact U.mono I
theorem Gf:∀(l:List Qn) (st:WS) (k:Nat),zm st.2 k->zm (l.foldl wg st).2 (k+254*l.length)
 |[],st,k,h=>h
 |q::l,st,k,h=>(Gf l (wg st q) (k+254) (ZK h q)).mono aA
theorem Gg:∀(l:List RR) (st:WS) (k:Nat),zm st.2 k->zm (l.foldl uF st).2 (k+762*l.length)
 |[],st,k,h=>h
 |r::l,st,k,h=>(Gg l (uF st r) (k+762) (UP h r)).mono aA
theorem Of(m:vU)(pack:Bool):zm (xq m pack).2 0:=by
  intro T' h;cases pack with
  |false=>cases h
  |true=>(obtain rfl:[]=T':=by simpa[xq]using h);simp
theorem Iv{m:vU}(pack:Bool)(h:wH m≠0):vN m pack=([],wH m):=by unfold vN;rw[if_pos h]
theorem Gh{m:vU}(pack:Bool)(h:wH m=0)(hl:65535<(Eo m pack).1.length):vN m pack=([],3):=by unfold vN;rw[if_neg (by simp[h]),if_pos hl]
theorem KF{m:vU}(pack:Bool)(h:wH m=0)(hl:¬65535<(Eo m pack).1.length):vN m pack=((Eo m pack).1,0):=by unfold vN;rw[if_neg (by simp[h]),if_neg hl]
theorem Wd(m:vU)(pack:Bool):Eo m pack=m.ex.foldl uF (m.au.foldl uF (m.an.foldl uF (m.qs.foldl wg (xq m pack)))):=by
 unfold Eo vU.Cq;rw[List.foldl_append,List.foldl_append]
theorem Jd(m:vU)(pack:Bool):(xq m pack).1.length=12:=by simp[xq,xC,uy]
theorem UQ{Q:Exit->Act->World->Prop}(hgd:o.guard=none)(t1 t2:TypeId)(x:Operand)(ho:o.op= .convert t1 t2 x)(v:Value)(hx:a.eval x=v)
  (hr:(convert t1 t2 v).run P w= .ok v' w') (h:wpList P ops Q rest (a.put o.dst v') w'):wpList P ops Q (o::rest) a w:=by
 exact rW
theorem Ek.grown{T:Option Co}{row:Option Nat}(h:Ek lo w p T)(hg:w.grownBy w' row)(hne:∀k,row=some k->∃cs t fz,w.heap[k]?=some (.cells cs t fz)/\t≠315):Ek lo w' p T:=by
 cases T with
 |none=>exact h
 |some T=>
  obtain⟨g,b,U,X,h3,h4,⟨f,h5,h6⟩,h7⟩:=h;have n1:some g≠row:=by intro he;obtain⟨cs,t,fz,hh,ht⟩:=hne g he.symm;have h4':w.heap[g]?=_:=h4;rw[hh]at h4';injection h4' with h4';injection h4' with _ h4';exact ht h4'
  have n2:some b≠row:=by intro he;obtain⟨cs,t,fz,hh,ht⟩:=hne b he.symm;obtain⟨D,⟨es,N,hm,_⟩,_⟩:=h5;rw[hh]at hm;cases hm
  exact⟨g,b,U,X,h3,h4.grown hg n1,⟨f,h5.kept hg n2,h6⟩,h7⟩
def zK(lo:Nat)(w:World)(gw:Nat)(s:List UInt8)(p:Option Addr)(T:Option Co):Prop:=
 ∃A c,lo<=gw/\F w gw 277 [.slice A s.length c,.pointer p]/\Bp w lo (.slice A s.length c) s/\Ek lo w p T
theorem zK.G{T:Option Co}(h:zK lo w gw s p T)(Z:al w w'):zK lo w' gw s p T:=by
 obtain⟨A,c,U,X,h3,h4⟩:=h;exact⟨A,c,U,X.G Z X.lt,h3.G Z,h4.G Z⟩
def wL(lo:Nat)(w w':World):Prop:=Below lo w w'/\∀g t cs,F w g t cs->t≠277->t≠5->F w' g t cs
theorem wL.trans(h:wL lo w w1)(h':wL lo w1 w2):wL lo w w2:=⟨h.1.trans h'.1,fun k t cs Z U X=>h'.2 k t cs (h.2 k t cs Z U X) U X⟩
theorem wL.y9(h:al w w1)(uw:lo<=w.heap.size):wL lo w w1:=⟨h.mono uw,fun k t cs Z _ _=>Z.G h Z.lt⟩
theorem wL.ZM(h:AQ lo w w1):wL lo w w1:=⟨h.1,fun k t cs Z _ _=>h.vj Z⟩
theorem wL.size(h:wL lo w w1)(uw:lo<=w.heap.size):lo<=w1.heap.size:=wI h.1 uw
theorem PN{T:Option Co}{A':Option Addr}{c c':Nat}(uw:lo<=w.heap.size)(U:lo<=gw)(X:F w gw 277 [.slice A s.length c,.pointer p])(h3:Bp w lo (.slice A s.length c) s)(h4:Ek lo w p T)
  (k1:Bp w1 lo (.slice A' (s++x).length c') (s++x)) (g1:w.grownBy w1 (Value.slice A s.length c).ownBlock) (k2:F w2 gw 277 [.slice A' (s++x).length c',.pointer p]) (g2:w1.grownBy w2 (some gw)):
  zK lo w2 gw (s++x) p T/\wL lo w w2:=by
 have b1:F w1 gw 277 [.slice A s.length c,.pointer p]:=X.grown g1 (h3.ne X az);have t1:Ek lo w1 p T:=h4.grown g1 (by
  intro k z;rcases h3 with⟨hv,_⟩|⟨g,cap,cur,fz,hv,hB,hh,_⟩
  ·rw[hv]at z;simp[Value.ownBlock]at z
  ·
   rw[hv]at z;obtain rfl:g=k:=iN;exact⟨_,_,_,hh,az⟩)
 have t2:Ek lo w2 p T:=t1.grown g2 (by
  intro k z;obtain rfl:=Option.some.inj z;exact⟨_,_,_,b1,az⟩)
 have o2:Bp w2 lo (.slice A' (s++x).length c') (s++x):=k1.kept g2 (.inr (fun he=>k1.ne b1 az he.symm));have B1:Below lo w w1:=(Below.refl _ _).grown g1 uw h3.base;have B2:Below lo w w2:=uq B1 g2 (wI B1 uw) U;refine⟨⟨A',c',U,k2,o2,t2⟩,B2,fun g t cs Z n1 n2=>?_⟩;have hb1:F w1 g t cs:=Z.grown g1 (h3.ne Z n2);refine hb1.grown g2 ?_;intro he;obtain rfl:=Option.some.inj he;have hh:w1.heap[g]?=_:=hb1;have b1':w1.heap[g]?=_:=b1;exact tE
def JS(lo gw:Nat)(p:Option Addr)(v:Value)(s:List UInt8)(T:Option Co)(w:World)(x:Ending)(w':World):Prop:=
 x= .returned v/\zK lo w' gw s p T/\wL lo w w'
theorem Ep:(prog.info? 145).map (·.size)=some 1:=by kernel_rfl
theorem Sh{O:TypeId}(sl y:Operand)(ho:o.op= .call {callee:=.builtin .append,args:= #[sl,y],argTypes:= #[145,9]})(hty:o.type=O)(hs:a.eval sl=v)(hy:a.eval y= .string (bs x))
  (hr:(Builtin.append_ #[145,9] O #[v,.string (bs x)]).run prog w= .ok v' w'):(execOp a.eval o).run prog w= .ok (.value v') w':=by
 exact qb
theorem Si(lo gw:Nat)(s:List UInt8)(p:Option Addr)(T:Option Co)(width n:Int)(w:World)(hW:zK lo w gw s p T)(uw:lo<=w.heap.size)(hl:s.length<=10000000):
  Calls prog 209 #[.pointer (some ⟨gw,0,none⟩),.int .i64 width,.int .i64 n] w (JS lo gw p (.tuple #[]) (s++uA (hw width) n) T w):=by
 obtain⟨A,c,U,X,h3,h4⟩:=hW;have P:=Y (fun w=>wQ width n w);have xl:(uA (hw width) n).length<=4:=by rw[uy];exact YQ width
 generalize uA (hw width) n=x at*;go_enter func209,ntmps209;go_wp2_with fail;refine wp_region_held_drew (S:=fun _=>True) (by kernel_rfl) trivial (fun K=>?_);have hD:Below w.heap.size w w.drew:=iQ
 (refine ag 0 (some 6) J J (by kernel_rfl) (fun W hW=>rfl) K ?_;simp only[E])
 (refine ag 1 (some 7) J J (by kernel_rfl) (fun W hW=>rfl) K ?_;simp only[E])
 (refine ag 2 (some 8) J J (by kernel_rfl) (fun W hW=>rfl) K ?_;simp only[E])
 (refine ag 3 (some 9) J J (by kernel_rfl) (fun W hW=>rfl) K ?_;simp only[E])
 (refine ag 5 (some 11) J J (by kernel_rfl) (fun W hW=>rfl) K ?_;simp only[E])
 (refine ag 6 (some 12) J J (by kernel_rfl) (fun W hW=>rfl) K ?_;simp only[E])
 refine yi 4 7 (by kernel_rfl) ?_ ?_
 ·
  refine xR 4 (some 10) 145 (.tmp 9) ⟨gw,0,none⟩ J J J J (by kernel_rfl) (uB underlying145 J (X.M 0 J)) ?_;refine⟨trivial,?_⟩;simp only[E];refine uO 7 (by kernel_rfl) ?_;refine wG 7 (some 13) 117 #[.int .i64 width,.int .i64 n] J J (by kernel_rfl) bp (P.out _) ?_;rintro _ w1 ⟨rfl,b1⟩;replace b1:=hD.trans b1;refine⟨_,J,trivial,?_⟩;simp only[E];obtain⟨v',w2,hr,k1,g1⟩:=La w1 145 lo _ s x (h3.G b1) (Nat.le_trans uw b1.size) I;obtain⟨A',c',rfl⟩:=k1.form;refine uO 8 (by kernel_rfl) ?_;refine vz 8 (some 14) J J (by kernel_rfl) (Sh (.tmp 10) (.tmp 13) J J J J hr) ?_;refine⟨trivial,?_⟩;simp only[E]
  (refine ag 9 (some 15) J J (by kernel_rfl) (fun W hW=>rfl) K ?_;simp only[E])
  (refine ag 10 (some 16) J J (by kernel_rfl) (fun W hW=>rfl) K ?_;simp only[E])
  refine uO 11 (by kernel_rfl) ?_;have B2:=(X.G b1 X.lt).grown g1 ((h3.G b1).ne (X.G b1 X.lt) az);refine xS 11 145 (.tmp 16) (.tmp 14) J J J (by kernel_rfl) gw 0 J _ J B2 ap Ep J J ?_;intro w3 hb3 hg3 hs3;refine⟨trivial,?_⟩;simp only[E];refine wpAnyH_done (by kernel_rfl) ?_ _;exact qI
 ·
  refine wG 7 (some 13) 117 #[.int .i64 width,.int .i64 n] J J (by kernel_rfl) bp (P.out _) ?_;rintro _ w1 ⟨rfl,b1⟩;replace b1:=hD.trans b1;refine⟨_,J,trivial,?_⟩;simp only[E];refine uO 4 (by kernel_rfl) ?_;refine xR 4 (some 10) 145 (.tmp 9) ⟨gw,0,none⟩ J J J J (by kernel_rfl) (uB underlying145 J ((X.G b1 X.lt).M 0 J)) ?_;refine⟨trivial,?_⟩;simp only[E];obtain⟨v',w2,hr,k1,g1⟩:=La w1 145 lo _ s x (h3.G b1) (Nat.le_trans uw b1.size) I;obtain⟨A',c',rfl⟩:=k1.form;refine uO 8 (by kernel_rfl) ?_;refine vz 8 (some 14) J J (by kernel_rfl) (Sh (.tmp 10) (.tmp 13) J J J J hr) ?_;refine⟨trivial,?_⟩;simp only[E]
  (refine ag 9 (some 15) J J (by kernel_rfl) (fun W hW=>rfl) K ?_;simp only[E])
  (refine ag 10 (some 16) J J (by kernel_rfl) (fun W hW=>rfl) K ?_;simp only[E])
  refine uO 11 (by kernel_rfl) ?_;have B2:=(X.G b1 X.lt).grown g1 ((h3.G b1).ne (X.G b1 X.lt) az);refine xS 11 145 (.tmp 16) (.tmp 14) J J J (by kernel_rfl) gw 0 J _ J B2 ap Ep J J ?_;intro w3 hb3 hg3 hs3;refine⟨trivial,?_⟩;simp only[E];refine wpAnyH_done (by kernel_rfl) ?_ _;exact qI
theorem Og(lo gw:Nat)(s:List UInt8)(p:Option Addr)(T:Option Co)(An:Option Addr)(cn:Nat)(n:List (List UInt8))(w:World)(hW:zK lo w gw s p T)(hN:xE w An cn n)(uw:lo<=w.heap.size)(hl:s.length<=10000000)(hf:zm T 900000):
  Calls prog 208 #[.pointer (some ⟨gw,0,none⟩),.slice An n.length cn] w (JS lo gw p (.int .i64 (uE n)) (s++vh T s.length n) (vL T s.length n) w):=by
 obtain⟨A,c,U,X,h3,h4⟩:=hW;have P:=Y (fun w' (b:al w w')=>Is lo p T An cn n (s.length:Int) w' (Nat.le_trans uw b.size) (h4.G b) (hN.G b) hf);have xl:=xk T (s.length:Int) n;generalize vh T (s.length:Int) n=x at*;generalize vL T (s.length:Int) n=T' at*;generalize uE n=e at*;generalize n.length=nl at*;clear hN hf h4;go_enter func208,ntmps208;go_wp2_with fail;refine wp_region_held_drew (S:=fun W=>F W gw 277 [.slice A s.length c,.pointer p]) (by kernel_rfl) X.drew (fun K=>?_);have hD:Below w.heap.size w w.drew:=iQ
 (refine ag 0 (some 8) J J (by kernel_rfl) (fun W hW=>rfl) K ?_;simp only[E])
 (refine ag 1 (some 9) J J (by kernel_rfl) (fun W hW=>rfl) K ?_;simp only[E])
 (refine ag 2 (some 10) J J (by kernel_rfl) (fun W hW=>rfl) K ?_;simp only[E])
 refine vK 3 (some 11) 275 (.tmp 10) ⟨gw,1,none⟩ J J J J (by kernel_rfl) (by kernel_rfl) (by kernel_rfl) (fun _ _ _ h=>h) (by kernel_rfl) (fun W hW=>uB underlying275 J (hW.M 1 J)) K ?_;simp only[E]
 (refine ag 4 (some 12) J J (by kernel_rfl) (fun W hW=>rfl) K ?_;simp only[E])
 (refine ag 5 (some 13) J J (by kernel_rfl) (fun W hW=>rfl) K ?_;simp only[E])
 (refine ag 6 (some 14) J J (by kernel_rfl) (fun W hW=>rfl) K ?_;simp only[E])
 (refine ag 7 (some 15) J J (by kernel_rfl) (fun W hW=>rfl) K ?_;simp only[E])
 refine vK 8 (some 16) 145 (.tmp 15) ⟨gw,0,none⟩ J J J J (by kernel_rfl) (by kernel_rfl) (by kernel_rfl) (fun _ _ _ h=>h) (by kernel_rfl) (fun W hW=>uB underlying145 J (hW.M 0 J)) K ?_;simp only[E];refine ag 9 (some 17) (v:=.int .i64 (s.length:Int)) J J (by kernel_rfl) (fun W hW=>by go_simp) K ?_;simp only[E];refine vx 10 (some 18) 236 #[.pointer p,.slice An nl cn,.int .i64 (s.length:Int)] (by kernel_rfl) J J (by kernel_rfl) bp (P.out _ hD) ?_;rintro _ w1 ⟨rfl,hT1,hK1⟩;have B1:=hK1.vj X.drew;have O1:Bp w1 lo (.slice A s.length c) s:=by
  rcases h3 with hn|⟨g,cap,cur,fz,hv,hB,hh,rest⟩
  ·exact .inl hn
  ·exact .inr ⟨g,cap,cur,fz,hv,hB,hK1.2 g _ cur fz hh,rest⟩
 have K1:wL lo w w1:=(wL.y9 hD uw).trans (wL.ZM hK1);have asN:=K1.size uw;refine⟨_,J,B1,?_⟩;clear K hK1 P hD X h3;have K:=B1;simp only[E]
 (refine ag 11 (some 7) J J (by kernel_rfl) (fun W hW=>rfl) K ?_;simp only[E])
 (refine ag 12 (some 19) J J (by kernel_rfl) (fun W hW=>rfl) K ?_;simp only[E])
 (refine ag 13 (some 20) J J (by kernel_rfl) (fun W hW=>rfl) K ?_;simp only[E])
 (refine ag 14 (some 5) J J (by kernel_rfl) (fun W hW=>rfl) K ?_;simp only[E])
 (refine ag 15 (some 6) J J (by kernel_rfl) (fun W hW=>rfl) K ?_;simp only[E])
 refine wpAnyH_done (by kernel_rfl) ?_ _;clear K;have c0:=B1.M 0 J;go_wp2_with(at_builtin;go_must(refine Ij _ J (.tmp 25) (.tmp 26) J lo _ s x J O1 asN J I ?_));intro A' c' w2 k1 g1;have B2:=B1.grown g1 (O1.ne B1 az);clear c0;go_wp2_with(refine ur (.store 145 (.tmp 29) (.tmp 27)) J (af J gw 0 _ B2 ap Ep ?_));intro w3 hb3 hg3 hs3;rw[<-List.length_append]at hb3 k1;obtain⟨R1,R2⟩:=PN (x:=x) asN U B1 O1 hT1 k1 g1 hb3 hg3;have R3:=K1.trans R2;clear hb3 hg3 hs3 B2 g1 k1 R2 B1 O1;exact uj
theorem wL.abX(h:wL lo w w')(Z:F w g 28 cs):F w' g 28 cs:=h.2 g _ cs Z az az
theorem wL.abY(h:wL lo w w')(Z:F w g 119 cs):F w' g 119 cs:=h.2 g _ cs Z az az
theorem DT(lo gw:Nat)(s:List UInt8)(p:Option Addr)(T:Option Co)(n:Int)(w:World)(hW:zK lo w gw s p T)(uw:lo<=w.heap.size)(hl:s.length<=10000000):
  Calls prog 209 #[.pointer (some ⟨gw,0,none⟩),.int .i64 2,.int .i64 n] w (JS lo gw p (.tuple #[]) (s++uA 2 n) T w):=Si lo gw s p T 2 n w hW uw hl
theorem Xq(lo gw:Nat)(s:List UInt8)(p:Option Addr)(T:Option Co)(n:Int)(w:World)(hW:zK lo w gw s p T)(uw:lo<=w.heap.size)(hl:s.length<=10000000):
  Calls prog 209 #[.pointer (some ⟨gw,0,none⟩),.int .i64 4,.int .i64 n] w (JS lo gw p (.tuple #[]) (s++uA 4 n) T w):=Si lo gw s p T 4 n w hW uw hl
theorem Np(lo gw:Nat)(st:WS)(p:Option Addr)(An:Option Addr)(cn:Nat)(q:Qn)(w0 w:World)(hW:zK lo w gw st.1 p st.2)(hN:xE w0 An cn q.name)(h0:w0.heap.size<=lo)(hb0:al w0 w)(uw:lo<=w.heap.size)(hl:st.1.length<=5000000)(hf:zm st.2 900000):
  Calls prog 169 #[.pointer (some ⟨gw,0,none⟩),.agg (qC (.slice An q.name.length cn) q).toArray] w (JS lo gw p (.int .i64 (uE q.name)) (wg st q).1 (wg st q).2 w):=by
 have P:=Y (fun w' (b:al w w')=>Og lo gw st.1 p st.2 An cn q.name w' (hW.G b) ((hN.G hb0).G b) (Nat.le_trans uw b.size) I hf);have xl:=xk st.2 (st.1.length:Int) q.name;have y1:=uy 2 q.O;obtain⟨s',hs'⟩:∃s',s'=(wg st q).1:=gG;rw[<-hs'];have HS:=Y hs';clear hs';replace HS:Hid (s'=st.1++vh st.2 st.1.length q.name++uA 2 q.O++uA 2 q.N):=HS;have hT':(wg st q).2=vL st.2 st.1.length q.name:=rfl;rw[hT'];clear hT';have N1:=Y (fun w' (hW:zK lo w' gw (st.1++vh st.2 st.1.length q.name) p (vL st.2 st.1.length q.name)) (uw:lo<=w'.heap.size)=>DT lo gw _ p _ q.O w' hW uw aA);have N2:=Y (fun w' (hW:zK lo w' gw (st.1++vh st.2 st.1.length q.name++uA 2 q.O) p (vL st.2 st.1.length q.name)) (uw:lo<=w'.heap.size)=>DT lo gw _ p _ q.N w' hW uw (by simp[y1];omega));generalize st.1++vh st.2 st.1.length q.name++uA 2 q.O++uA 2 q.N=s3 at*;obtain rfl:=HS.out;clear HS;generalize st.1++vh st.2 st.1.length q.name++uA 2 q.O=s2 at*;generalize st.1++vh st.2 st.1.length q.name=s1 at*;generalize vL st.2 st.1.length q.name=T1 at*;generalize uE q.name=e at*;unfold qC;generalize q.name.length=nl,q.O=O,q.N=N at*;clear hN hb0 hf hW xl y1;have B0:=F.new w 28 [.slice An nl cn,.int .i64 O,.int .i64 N];have HB0:Below w.heap.size w (w.alloc (.cells #[.slice An nl cn,.int .i64 O,.int .i64 N] 28)):=gF;have c0:=B0.M 0 J;go_enter func169,ntmps169;go_wp2_with fail;refine(P.out _ HB0).mono ?_;rintro _ w1 ⟨rfl,W1,K1⟩;have B1:=K1.abX B0;have K1':wL lo w w1:=(wL.y9 HB0 uw).trans K1;clear c0 P K1 B0 HB0;have c1:=B1.M 1 J;go_wp2_with fail;refine(N1.out _ W1 (K1'.size uw)).mono ?_;rintro _ w2 ⟨rfl,W2,K2⟩;have B2:=K2.abX B1;have K2':wL lo w w2:=K1'.trans K2;clear c1 N1 K2 B1 K1' W1;have c2:=B2.M 2 J;go_wp2_with fail;refine(N2.out _ W2 (K2'.size uw)).mono ?_;rintro _ w3 ⟨rfl,W3,K3⟩;have K3':wL lo w w3:=K2'.trans K3;clear c2 N2 K3 B2 K2' W2;go_wp2_with fail;go_ret;exact⟨J,W3,K3'⟩
theorem Sj(lo gw:Nat)(s:List UInt8)(p:Option Addr)(T:Option Co)(e:Int)(w:World)(hW:zK lo w gw s p T)(hl:s.length<=10000000):
  Calls prog 168 #[.pointer (some ⟨gw,0,none⟩),.int .i64 e] w (xX (.int .i64 (if e=0/\65535<s.length then 3 else e)) w):=by
 obtain⟨A,c,U,X,h3,h4⟩:=hW;have c0:=X.M 0 J;by_cases he:e=0
 ·
  have e1:(e==0)=true:=iE;by_cases hs:65535<s.length
  ·have e2:(65535:Int)<s.length:=I;rw[if_pos ⟨he,hs⟩];go_enter func168,ntmps168;exact pv
  ·have e2:¬(65535:Int)<s.length:=I;rw[if_neg (fun h=>hs h.2)];go_enter func168,ntmps168;exact pv
 ·have e1:(e==0)=false:=iE;rw[if_neg (fun h=>he h.1)];clear he;go_enter func168,ntmps168;exact pv
theorem Je{r:RR}(hw:r.wf)(hc:uN r=0)(T:Option Co)(uG:Int):(yT T uG r).length<=70000:=by
 have hE:=(FT hc).2;have h16:=hw.1;have h5:=hw.2;unfold yT;unfold yC at hE;split
 ·simp;omega
 split
 ·omega
 split
 ·have:=xk T uG r.tg;omega
 split
 ·have:=xk none 0 r.tg;have e:vh none 0 r.tg=yS r.tg:=rfl;rw[e]at this;simp[uy];omega
 split
 ·
  have a1:=xk T uG r.tg;have a2:=xk (vL T uG r.tg) (uG+(vh T uG r.tg).length) r.ml;have a3:(r.Hh.flatMap (uA 4)).length=20:=by
   match r.Hh,h5 with
   |[a,b,c,d,e],_=>simp[uy]
  simp only[List.length_append];omega
 ·
  rw[if_neg ‹_›,if_neg ‹_›,if_neg ‹_›,if_neg ‹_›,if_neg ‹_›]at hE;by_cases h:65535<r.raw.length
  ·rw[if_pos h]at hE;cases hE
  ·omega
theorem Fl(lo gw:Nat)(st:WS)(p:Option Addr)(cs:List Value)(r:RR)(w0 w:World)(hW:zK lo w gw st.1 p st.2)(hR:xJ w0 cs r)(h0:w0.heap.size<=lo)(hb0:al w0 w)(uw:lo<=w.heap.size)(hl:st.1.length<=500000)(hf:zm st.2 700000)(hc:uN r=0):
  Calls prog 171 #[.pointer (some ⟨gw,0,none⟩),.agg cs.toArray] w (JS lo gw p (.int .i64 0) (uF st r).1 (uF st r).2 w):=by
 have asK:=(FT hc).1;obtain⟨An,cn,L0,hN,hwf,hcl⟩:∃An cn,cs[0]?=some (.slice An r.name.length cn)/\xE w0 An cn r.name/\r.wf/\cs.length=33:=by obtain⟨An,cn,At,ct,Am,cm,rfl,hr,hN,_⟩:=hR;exact⟨An,cn,J,hN,hr,vA hr⟩
 have L1:cs[1]?=some (.int .i64 r.O):=ja;have L2:cs[2]?=some (.int .i64 r.N):=ja;have L3:cs[3]?=some (.int .i64 r.ak):=ja;have P:=Y (fun w' (b:al w w')=>Og lo gw st.1 p st.2 An cn r.name w' (hW.G b) ((hN.G hb0).G b) (Nat.le_trans uw b.size) I (fun T' h=>Nat.le_trans (hf T' h) I));rw[asK]at P;have xl:=xk st.2 (st.1.length:Int) r.name;have y1:=uy 2 r.O;have y2:=uy 2 r.N;have y3:=uy 4 r.ak;have hfT:zm (zY st r) 800000:=fun T' h=>Nat.le_trans ((hf.put _ _) T' h) I
 have hsl:(yU st r).length<=501000:=by simp only[yU,List.length_append];omega
 have hdl:=Je hwf hc (zY st r) ((yU st r).length+2);have D:=Y (fun w' (b:Below lo w w') (ajx:lo<=w'.heap.size) (hT':Ek lo w' p (zY st r))=>Zz lo cs r ((yU st r).length+2) p (zY st r) w0 w' hR h0 (hb0.trans (b.mono h0)) ajx hT' hfT I I);have er1:GY (zY st r) ((yU st r).length+2) r=zp st r:=by unfold GY;rw[if_pos hc];rfl
 have er2:GZ (zY st r) ((yU st r).length+2) r=(uF st r).2:=by unfold GZ;rw[if_pos hc];rfl
 rw[er1,er2,hc]at D;replace hdl:(zp st r).length<=70000:=hdl;have hs':(uF st r).1=yU st r++uA 2 (zp st r).length++zp st r:=rfl;have y4:=uy 2 ((zp st r).length:Int);rw[hs'];have N1:=Y (fun w' (hW:zK lo w' gw (st.1++vh st.2 st.1.length r.name) p (zY st r)) (uw:lo<=w'.heap.size)=>DT lo gw _ p _ r.O w' hW uw aA);have N2:=Y (fun w' (hW:zK lo w' gw (st.1++vh st.2 st.1.length r.name++uA 2 r.O) p (zY st r)) (uw:lo<=w'.heap.size)=>DT lo gw _ p _ r.N w' hW uw aA);have N3:=Y (fun w' (hW:zK lo w' gw (st.1++vh st.2 st.1.length r.name++uA 2 r.O++uA 2 r.N) p (zY st r)) (uw:lo<=w'.heap.size)=>Xq lo gw _ p _ r.ak w' hW uw aA);have N4:=Y (fun w' (hW:zK lo w' gw (yU st r) p (uF st r).2) (uw:lo<=w'.heap.size)=>DT lo gw _ p _ ((zp st r).length:Int) w' hW uw I);have aF1:(yU st r++uA 2 (zp st r).length).length<=600000:=dF;clear hs' er1 er2 hfT hR hf hN hb0 hW hwf hc;change Hid (∀w':World,zK lo w' gw (st.1++vh st.2 st.1.length r.name++uA 2 r.O++uA 2 r.N) p (zY st r)->lo<=w'.heap.size->Calls prog 209 #[.pointer (some ⟨gw,0,none⟩),.int .i64 4,.int .i64 r.ak] w' (JS lo gw p (.tuple #[]) (yU st r) (zY st r) w'))at N3;change Hid (∀w':World,al w w'->Calls prog 208 #[.pointer (some ⟨gw,0,none⟩),.slice An r.name.length cn] w' (JS lo gw p (.int .i64 0) (st.1++vh st.2 st.1.length r.name) (zY st r) w'))at P;generalize(uF st r).2=T2 at*;generalize zp st r=d at*;generalize yU st r=s4 at*;generalize zY st r=T1 at*;generalize st.1++vh st.2 st.1.length r.name++uA 2 r.O++uA 2 r.N=s3 at*;generalize st.1++vh st.2 st.1.length r.name++uA 2 r.O=s2 at*;generalize st.1++vh st.2 st.1.length r.name=s1 at*;generalize r.name.length=nl,r.O=O at*;generalize r.N=N,r.ak=ak at*;clear xl y1 y2 y3;have B0:=F.new w 119 cs;have HB0:Below w.heap.size w (w.alloc (.cells cs.toArray 119)):=gF;have c0:=B0.M 0 L0;go_enter func171,ntmps171;go_wp2_with fail;refine(P.out _ HB0).mono ?_;rintro _ w1 ⟨rfl,W1,K1⟩;have B1:=K1.abY B0;have K1':wL lo w w1:=(wL.y9 HB0 uw).trans K1;clear c0 P K1 B0 HB0 L0;have c1:=B1.M 1 L1;go_wp2_with fail;refine(N1.out _ W1 (K1'.size uw)).mono ?_;rintro _ w2 ⟨rfl,W2,K2⟩;have B2:=K2.abY B1;have K2':wL lo w w2:=K1'.trans K2;clear c1 N1 K2 B1 K1' W1 L1;have c2:=B2.M 2 L2;go_wp2_with fail;refine(N2.out _ W2 (K2'.size uw)).mono ?_;rintro _ w3 ⟨rfl,W3,K3⟩;have B3:=K3.abY B2;have K3':wL lo w w3:=K2'.trans K3;clear c2 N2 K3 B2 K2' W2 L2;have c3:=B3.M 3 L3;go_wp2_with fail;refine(N3.out _ W3 (K3'.size uw)).mono ?_;rintro _ w4 ⟨rfl,W4,K4⟩;have B4:=K4.abY B3;have K4':wL lo w w4:=K3'.trans K4;have agv:=K4'.size uw;clear c3 N3 K4 B3 K3' W3 L3;obtain⟨A,c,U,X,h3,h4⟩:=W4;go_wp2_with fail;have hw1:IntKind.i64.wrap ((s4.length:Int)+2)=(s4.length:Int)+2:=jk;refine wp_region_held_drew (S:=fun W=>F W gw 277 [.slice A s4.length c,.pointer p]/\F W w.heap.size 119 cs) (by kernel_rfl) ⟨X.drew,B4.drew⟩ (fun K=>?_);have hD:Below w4.heap.size w4 w4.drew:=iQ;refine vK 0 (some 28) 119 (.tmp 3) ⟨w.heap.size,0,none⟩ J J J J (by kernel_rfl) (by kernel_rfl) (by kernel_rfl) (fun _ _ _ h=>h) (by kernel_rfl) (fun W hW=>hW.2.wS 119 0 33 I _ underlying119 J uU cs (wP I)) K ?_;simp only[E]
 (refine ag 1 (some 29) J J (by kernel_rfl) (fun W hW=>rfl) K ?_;simp only[E])
 (refine ag 2 (some 30) J J (by kernel_rfl) (fun W hW=>rfl) K ?_;simp only[E])
 (refine ag 3 (some 31) J J (by kernel_rfl) (fun W hW=>rfl) K ?_;simp only[E])
 refine vK 4 (some 32) 145 (.tmp 31) ⟨gw,0,none⟩ J J J J (by kernel_rfl) (by kernel_rfl) (by kernel_rfl) (fun _ _ _ h=>h) (by kernel_rfl) (fun W hW=>uB underlying145 J (hW.1.M 0 J)) K ?_;simp only[E];refine ag 5 (some 33) (v:=.int .i64 (s4.length:Int)) J J (by kernel_rfl) (fun W hW=>by go_simp) K ?_;simp only[E];refine ag 6 (some 34) (v:=.int .i64 ((s4.length:Int)+2)) J J (by kernel_rfl) (fun W hW=>by go_simp) K ?_;simp only[E]
 (refine ag 7 (some 35) J J (by kernel_rfl) (fun W hW=>rfl) K ?_;simp only[E])
 (refine ag 8 (some 36) J J (by kernel_rfl) (fun W hW=>rfl) K ?_;simp only[E])
 (refine ag 9 (some 37) J J (by kernel_rfl) (fun W hW=>rfl) K ?_;simp only[E])
 refine vK 10 (some 38) 275 (.tmp 37) ⟨gw,1,none⟩ J J J J (by kernel_rfl) (by kernel_rfl) (by kernel_rfl) (fun _ _ _ h=>h) (by kernel_rfl) (fun W hW=>uB underlying275 J (hW.1.M 1 J)) K ?_;simp only[E];refine vx 11 (some 39) 210 #[.agg cs.toArray,.int .i64 ((s4.length:Int)+2),.pointer p] (by kernel_rfl) J J (by kernel_rfl) bp (D.out _ (K4'.1.trans (hD.mono agv)) (Nat.le_trans agv hD.size) (h4.G hD)) ?_;rintro _ w5 ⟨rfl,hT5,hK5⟩;have B5:=hK5.vj X.drew;have O5:Bp w5 lo (.slice A s4.length c) s4:=by
  rcases h3 with hn|⟨g,cap,cur,fz,hv,hB,hh,rest⟩
  ·exact .inl hn
  ·exact .inr ⟨g,cap,cur,fz,hv,hB,hK5.2 g _ cur fz hh,rest⟩
 have K5:wL lo w w5:=(K4'.trans (wL.y9 hD agv)).trans (wL.ZM hK5);have ain:=K5.size uw;refine⟨_,J,⟨B5,hK5.vj B4.drew⟩,?_⟩;replace K:F w5 gw 277 [.slice A s4.length c,.pointer p]/\F w5 w.heap.size 119 cs:=⟨B5,hK5.vj B4.drew⟩;clear hK5 D hD X h3 h4 B4 K4' agv;simp only[E]
 (refine ag 12 (some 27) J J (by kernel_rfl) (fun W hW=>rfl) K ?_;simp only[E])
 (refine ag 13 (some 40) J J (by kernel_rfl) (fun W hW=>rfl) K ?_;simp only[E])
 (refine ag 14 (some 41) J J (by kernel_rfl) (fun W hW=>rfl) K ?_;simp only[E])
 refine ag 15 (some 6) (v:=.string (bs d)) J J (by kernel_rfl) (fun W hW=>rfl) K ?_;simp only[E];refine ag 16 (some 7) (v:=.int .i64 0) J J (by kernel_rfl) (fun W hW=>rfl) K ?_;simp only[E];refine wpAnyH_done (by kernel_rfl) ?_ _;clear K;have W5:zK lo w5 gw s4 p T2:=⟨A,c,U,B5,O5,hT5⟩;clear B5 O5 hT5 hw1;go_wp2_with fail;refine(N4.out _ W5 ain).mono ?_;rintro _ w6 ⟨rfl,W6,K6⟩;have K6':=K5.trans K6;have aiY:=K6'.size uw;clear K6 K5 W5 N4 ain;generalize s4++uA 2 (d.length:Int)=s5 at*;obtain⟨A,c,U,X,h3,h4⟩:=W6;have c0:=X.M 0 J;go_wp2_with(at_builtin;go_must(refine Ij _ J (.tmp 50) (.tmp 51) J lo _ s5 d J h3 aiY J I ?_));intro A' c' w7 k1 g1;have B7:=X.grown g1 (h3.ne X az);clear c0;go_wp2_with(refine ur (.store 145 (.tmp 54) (.tmp 52)) J (af J gw 0 _ B7 ap Ep ?_));intro w8 hb8 hg8 hs8;rw[<-List.length_append]at hb8 k1;obtain⟨R1,R2⟩:=PN (x:=d) aiY U X h3 h4 k1 g1 hb8 hg8;have R3:=K6'.trans R2;clear hb8 hg8 hs8 B7 g1 k1 R2 X h3 h4;exact uj
end Go.Proofs.YthnbcmlnpdabhaaGreat
