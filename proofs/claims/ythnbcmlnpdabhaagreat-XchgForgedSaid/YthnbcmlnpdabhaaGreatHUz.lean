/-
  Messages:as data,as cells,as octets.
-/
import Derived.Test.YthnbcmlnpdabhaaGreatHSz
import Derived.Test.YthnbcmlnpdabhaaGreatHTz
namespace Go.Proofs.YthnbcmlnpdabhaaGreat
open _root_.Go.Proofs.Tryz
set_option maxHeartbeats 8000000
open Go.RowKit
set_option maxRecDepth 100000
set_option linter.unusedVariables false
set_option linter.unusedSimpArgs false
variable {w w' w1 w2:World} {b lo gw g:Nat} {o:Oper} {cs:List Value} {A p:Option Addr} {v v':Value} {P:Program} {ops:Array Oper} {rest:List Oper} {a:Act} {s x:List UInt8}
structure Qn where
 name:List (List UInt8)
 E:Int
 N:Int
deriving DecidableEq
structure vo where
 hd:Hd
 qs:List Qn
 an:List RR
 au:List RR
 ex:List RR
deriving DecidableEq
def vo.BD(m:vo):List RR:=m.an++m.au++m.ex
def xK:List Int->Int
 |[]=>0
 |e::l=>if e≠0 then e else xK l
theorem Pa{l:List Int}(h:∀j (hj:j<l.length),l[j]=0):xK l=0:=by
 induction l with
 |nil=>rfl
 |cons e l ih=>have h0:e=0:=h 0 ap;unfold xK;exact sK
theorem YR{l:List Int}{k:Nat}(O:k<l.length)(h:∀j (hj:j<l.length),j<k->l[j]=0)(F:l[k]≠0):xK l=l[k]:=by
 induction l generalizing k with
 |nil=>simp at O
 |cons e l ih=>
  cases k with
  |zero=>simp only[List.getElem_cons_zero]at F⊢;unfold xK;rw[if_pos F]
  |succ k=>have h0:e=0:=h 0 ap I;unfold xK;exact rK
theorem Qz(a b:List Int):xK (a++b)=if xK a≠0 then xK a else xK b:=by
 induction a with
 |nil=>simp[xK]
 |cons e a ih=>
  by_cases h:e=0
  ·simp[xK,h,ih]
  ·simp[xK,h]
def qE(q:Qn):Int:=if tY q.name≠0 then tY q.name else if xN 65535 q.E&&xN 65535 q.N then 0 else 4
def vU(m:vo):Int:=
 if m.hd.ok=false then 4
 else if 65535<m.qs.length\/65535<m.an.length\/65535<m.au.length\/65535<m.ex.length then 3
 else if xK (m.qs.map qE)≠0 then xK (m.qs.map qE)
 else xK (m.BD.map uk)
abbrev WS:=List UInt8×Option Bp
def vC(st:WS)(q:Qn):WS:=(st.1++uE st.2 st.1.length q.name++tT 2 q.E++tT 2 q.N,vf st.2 st.1.length q.name)
def yz(st:WS)(r:RR):List UInt8:=st.1++uE st.2 st.1.length r.name++tT 2 r.E++tT 2 r.N++tT 4 r.ak
def zA(st:WS)(r:RR):Option Bp:=vf st.2 st.1.length r.name
def yR(st:WS)(r:RR):List UInt8:=yx (zA st r) ((yz st r).length+2) r
def tZ(st:WS)(r:RR):WS:=(yz st r++tT 2 (yR st r).length++yR st r,DG (zA st r) ((yz st r).length+2) r)
def wO(m:vo)(pack:Bool):WS:=(wW m.hd m.qs.length m.an.length m.au.length m.ex.length,if pack then some []else none)
def DJ(m:vo)(pack:Bool):WS:=m.BD.foldl tZ (m.qs.foldl vC (wO m pack))
def vg(m:vo)(pack:Bool):List UInt8×Int:=
 if vU m≠0 then([],vU m)else if 65535<(DJ m pack).1.length then([],3)else((DJ m pack).1,0)
theorem YS(st:WS)(q:Qn):st.1.length<=(vC st q).1.length:=by simp[vC]
theorem TF(st:WS)(r:RR):st.1.length<=(tZ st r).1.length:=by simp[tZ,yz]
theorem Nt(l:List Qn):∀st:WS,st.1.length<=(l.foldl vC st).1.length:=by
 induction l with
 |nil=>intro st;exact Nat.le_refl _
 |cons q l ih=>intro st;exact Nat.le_trans (YS st q) (ih _)
theorem zt(l:List RR):∀st:WS,st.1.length<=(l.foldl tZ st).1.length:=by
 induction l with
 |nil=>intro st;exact Nat.le_refl _
 |cons q l ih=>intro st;exact Nat.le_trans (TF st q) (ih _)
def qC(v:Value)(q:Qn):List Value:=[v,.int .i64 q.E,.int .i64 q.N]
def yh(h:Hd)(vq va vu ve:Value):List Value:=h.vJ++[vq,va,vu,ve]
theorem yJ(h:Hd)(vq va vu ve:Value):(yh h vq va vu ve).length=14:=rfl
theorem zI(h:Hd){vq va vu ve:Value}(U:vq.oneCell'=true)(X:va.oneCell'=true)(h3:vu.oneCell'=true)(h4:ve.oneCell'=true):∀v∈yh h vq va vu ve,v.oneCell'=true:=by
 intro v hv;simp only[yh,Hd.vJ,List.mem_append,List.mem_cons,List.not_mem_nil,or_false]at hv;rcases hv with(rfl|rfl|rfl|rfl|rfl|rfl|rfl|rfl|rfl|rfl)|rfl|rfl|rfl|rfl<;>first|rfl|assumption
theorem ux:(prog.info? 50).map (·.size)=some 14:=by kernel_rfl
theorem Cf:(prog.info? 46).map (·.size)=some 10:=by kernel_rfl
theorem xh:(prog.info? 28).map (·.size)=some 3:=by kernel_rfl
def QsR(w:World)(A:Option Addr)(l:List Qn):Prop:=0<l.length->∃b off,A=some ⟨b,off,none⟩/\b<w.heap.size/\∀i (hi:i<l.length),∃An cn,w.rangeAt b (off+i*3) (qC (.slice An l[i].name.length cn) l[i])/\xj w An cn l[i].name
def KW(w:World)(A:Option Addr)(l:List RR):Prop:=0<l.length->∃b off,A=some ⟨b,off,none⟩/\b<w.heap.size/\∀i (hi:i<l.length),∃cs,w.rangeAt b (off+i*33) cs/\xd w cs l[i]
theorem tX{B o:Nat}(h:w.rangeAt b o cs)(F:Below B w w')(hB:b<B):w'.rangeAt b o cs:=fun j v hv=>(F.cell hB).trans (h j v hv)
theorem QsR.G{l:List Qn}(h:QsR w A l)(F:al w w'):QsR w' A l:=by
 intro hl;obtain⟨b,off,U,X,h3⟩:=h hl;refine⟨b,off,U,Nat.lt_of_lt_of_le X F.size,fun i hi=>?_⟩;obtain⟨An,cn,h4,h5⟩:=h3 i hi;exact⟨An,cn,tX h4 F X,h5.G F⟩
theorem KW.G{l:List RR}(h:KW w A l)(F:al w w'):KW w' A l:=by
 intro hl;obtain⟨b,off,U,X,h3⟩:=h hl;refine⟨b,off,U,Nat.lt_of_lt_of_le X F.size,fun i hi=>?_⟩;obtain⟨cs,h4,h5⟩:=h3 i hi;exact⟨cs,tX h4 F X,h5.G F⟩
structure yZ (w:World) (cs:List Value) (m:vo) (Aq Aa Au Ae:Option Addr) (cq ca cu ce:Nat):Prop where
 hcs:cs=yh m.hd (.slice Aq m.qs.length cq) (.slice Aa m.an.length ca) (.slice Au m.au.length cu) (.slice Ae m.ex.length ce)
 hq:QsR w Aq m.qs
 ha:KW w Aa m.an
 hu:KW w Au m.au
 he:KW w Ae m.ex
 lq:m.qs.length<=17592186044416
 la:m.an.length<=17592186044416
 lu:m.au.length<=17592186044416
 le:m.ex.length<=17592186044416
theorem yZ.G{m:vo}{Aq Aa Au Ae:Option Addr}{cq ca cu ce:Nat}(h:yZ w cs m Aq Aa Au Ae cq ca cu ce)(F:al w w'):yZ w' cs m Aq Aa Au Ae cq ca cu ce:=
 ⟨h.hcs,h.hq.G F,h.ha.G F,h.hu.G F,h.he.G F,h.lq,h.la,h.lu,h.le⟩
open Go.ChangeShapes Go.WideShapes Go.ChangeAt Go.RowKit
theorem wF(cs:List Value)(n k m:Nat)(h:m=n+k):cs.drop n=(cs.drop n).take k++cs.drop m:=by
 subst h;rw[<-List.drop_drop,List.take_append_drop]
theorem Vf:∀(cs:List Value),(∀(i:Nat) (hi:i<cs.length),∃b:UInt8,cs[i]= .int .u8 (b.toNat:Int))->∃l:List UInt8,cs=vl l
 |[],_=>⟨[],J⟩
 |c::cs,h=>by
  obtain⟨b,F⟩:=h 0 ap;obtain⟨l,hl⟩:=Vf cs (fun i hi=>by have:=h (i+1) aF;simpa using this);simp at F;exact⟨b::l,by rw[F,hl];rfl⟩
theorem aeg{i:Nat}(hi:i<cs.length)(h:(cs.drop i).take 1=[v]):cs[i]=v:=by
 have:((cs.drop i).take 1)[0]?=some v:=by rw[h];rfl
 rw[List.getElem?_take_of_lt I,List.getElem?_drop,Nat.add_zero,List.getElem?_eq_getElem hi]at this;exact Option.some.inj this
section
variable {H:Type} {enc:TypeId×Value->H} {w:World} {cs:List Value}
theorem xR(h:uT enc prog w 3 cs):∃n:Int,cs=[.int .i64 n]:=by obtain⟨n,e,_⟩:=h.int underlying3;exact⟨n,e⟩
theorem aa4(h:uT enc prog w 22 cs):∃l:List UInt8,l.length=16/\cs=vl l:=by
 have c16:prog.cellsOf 22=16:=by kernel_rfl
 have c1:prog.cellsOf 5=1:=by kernel_rfl
 obtain⟨hl,hf⟩:=h.array underlying22;rw[c16]at hl;rw[c1]at hf;obtain⟨l,e⟩:=Vf cs (fun i hi=>by
  obtain⟨n,e,hw⟩:=(hf i I).int underlying5;rw[Nat.mul_one]at e;have e2:=aeg hi e;simp only[Lit.wf,Bool.and_eq_true,decide_eq_true_eq]at hw;have h0:0<=n:=hw.1;have U:n<=255:=hw.2;refine⟨UInt8.ofNat n.toNat,?_⟩;rw[e2];have e3:(UInt8.ofNat n.toNat).toNat=n.toNat:=by rw[UInt8.toNat_ofNat'];exact Nat.mod_eq_of_lt I
  rw[e3,Int.toNat_of_nonneg h0])
 refine⟨l,?_,e⟩;rw[e,vB]at hl;exact hl
theorem KX(h:uT enc prog w 24 cs):∃a:uV,a.ip.length=16/\cs=a.cells:=by
 have c18:prog.cellsOf 24=18:=by kernel_rfl
 have c1:prog.cellsOf 3=1:=by kernel_rfl
 have c16:prog.cellsOf 22=16:=by kernel_rfl
 obtain⟨hl,hf⟩:=h.struct underlying24;rw[c18]at hl;have h0:uT enc prog w 3 ((cs.drop 0).take (prog.cellsOf 3)):=l9;have U:uT enc prog w 22 ((cs.drop 1).take (prog.cellsOf 22)):=l8;have X:uT enc prog w 3 ((cs.drop 17).take (prog.cellsOf 3)):=oj;rw[c1]at h0 X;rw[c16]at U;obtain⟨f,e0⟩:=xR h0;obtain⟨ip,i16,e1⟩:=aa4 U;obtain⟨acZ,e2⟩:=xR X;refine⟨⟨f,ip,acZ⟩,i16,?_⟩;show cs.drop 0=_;rw[wF cs 0 1 1 J,e0,wF cs 1 16 17 J,e1,wF cs 17 1 18 J,e2,List.drop_of_length_le I];rfl
theorem ac0(h:uT enc prog w 28 cs):∃q:Qn,∃An cn,cs=qC (.slice An q.name.length cn) q/\xj w An cn q.name:=by
 have c33:prog.cellsOf 28=3:=by kernel_rfl
 have c1:prog.cellsOf 3=1:=by kernel_rfl
 have cn:prog.cellsOf 26=1:=by kernel_rfl
 obtain⟨hl,hf⟩:=h.struct underlying28;rw[c33]at hl;have h0:uT enc prog w 26 ((cs.drop 0).take (prog.cellsOf 26)):=l9;have U:uT enc prog w 3 ((cs.drop 1).take (prog.cellsOf 3)):=l8;have X:uT enc prog w 3 ((cs.drop 2).take (prog.cellsOf 3)):=oj;rw[cn]at h0;rw[c1]at U X;obtain⟨An,kn,n,e0,r0⟩:=KI underlying26 h0;obtain⟨E,e1⟩:=xR U;obtain⟨N,e2⟩:=xR X;refine⟨⟨n,E,N⟩,An,kn,?_,r0⟩;show cs.drop 0=_;rw[wF cs 0 1 1 J,e0,wF cs 1 1 2 J,e1,wF cs 2 1 3 J,e2,List.drop_of_length_le I];rfl
theorem Fe(h:uT enc prog w 4 cs):∃b:Bool,cs=[.bool b]:=h.bool underlying4
end
theorem Jn(n:Int)(w:World):Calls prog 204 #[.int .i64 n] w (yi (.bool (xN 65535 n)) w):=by
 unfold xN;by_cases h0:0<=n
 ·
  have d0:decide (0<=n)=true:=decide_eq_true h0;by_cases U:n<=65535
  ·have d1:decide (n<=65535)=true:=kR;rw[d0,d1];go_enter func204,ntmps204;exact oU
  ·have d1:decide (n<=65535)=false:=kD;rw[d0,d1];go_enter func204,ntmps204;exact oU
 ·have d0:decide (0<=n)=false:=om;rw[d0];clear h0;go_enter func204,ntmps204;exact oU
theorem Hr(n:Int)(w:World):Calls prog 160 #[.int .i64 n] w (yi (.bool (!xN 65535 n)) w):=by
 unfold xN;by_cases h0:n<0
 ·have d0:decide (n<0)=true:=decide_eq_true h0;have d1:decide (0<=n)=false:=ik;rw[d1];go_enter func160,ntmps160;exact oU
 ·
  have d0:decide (n<0)=false:=om;have d1:decide (0<=n)=true:=mw;rw[d1];by_cases U:65535<n
  ·have d2:decide (65535<n)=true:=kR;have d3:decide (n<=65535)=false:=ik;rw[d3];go_enter func160,ntmps160;exact oU
  ·have d2:decide (65535<n)=false:=kD;have d3:decide (n<=65535)=true:=mw;rw[d3];go_enter func160,ntmps160;exact oU
theorem aa5(h:Hd)(vq va vu ve:Value):(yh h vq va vu ve)[11]?=some va:=rfl
theorem aa6(h:Hd)(vq va vu ve:Value):(yh h vq va vu ve)[12]?=some vu:=rfl
theorem aa7(h:Hd)(vq va vu ve:Value):(yh h vq va vu ve)[13]?=some ve:=rfl
theorem Nu(h:Hd)(vq:Value)(Aa Au Ae:Option Addr)(na nu ne ca cu ce:Nat)(w:World):
  Calls prog 170 #[.agg (yh h vq (.slice Aa na ca) (.slice Au nu cu) (.slice Ae ne ce)).toArray] w (uf (.agg #[.slice Aa na ca,.slice Au nu cu,.slice Ae ne ce]) w):=by
 have hl:=yJ h vq (.slice Aa na ca) (.slice Au nu cu) (.slice Ae ne ce);have L1:=aa5 h vq (.slice Aa na ca) (.slice Au nu cu) (.slice Ae ne ce);have L2:=aa6 h vq (.slice Aa na ca) (.slice Au nu cu) (.slice Ae ne ce);have L3:=aa7 h vq (.slice Aa na ca) (.slice Au nu cu) (.slice Ae ne ce);generalize yh h vq (.slice Aa na ca) (.slice Au nu cu) (.slice Ae ne ce)=cs at*;have g1:∀hi:11<cs.length,cs[11]'hi= .slice Aa na ca:=xp L1;have g2:∀hi:12<cs.length,cs[12]'hi= .slice Au nu cu:=xp L2;have g3:∀hi:13<cs.length,cs[13]'hi= .slice Ae ne ce:=xp L3;clear L1 L2 L3;go_enter func170,ntmps170;go_wp2_with fail;refine wQ J (w.heap.size+1) J (Z.vP _ _ [.slice Aa na ca,.slice Au nu cu,.slice Ae ne ce] _ ap) _ underlying281 J (by kernel_rfl) J ?_;exact sS
theorem Wj(m:vo):vU m=if m.hd.ok=false then 4
  else if 65535<m.qs.length\/65535<m.an.length\/65535<m.au.length\/65535<m.ex.length then 3
  else if xK (m.qs.map qE)≠0 then xK (m.qs.map qE)
  else if xK (m.an.map uk)≠0 then xK (m.an.map uk)
  else if xK (m.au.map uk)≠0 then xK (m.au.map uk)else xK (m.ex.map uk):=by
 unfold vU vo.BD;rw[List.map_append,List.map_append,Qz,Qz];by_cases U:xK (m.an.map uk)=0
 ·simp[U]
 ·simp[U]
theorem Ff{α:Type}(f:α->Int)(l:List α)(h:∀j (hj:j<l.length),f l[j]=0):xK (l.map f)=0:=
 Pa (fun j hj=>by rw[List.getElem_map];exact h j (by simpa using hj))
theorem Dh{α:Type}(f:α->Int)(l:List α)(k:Nat)(O:k<l.length)(h:∀j (hj:j<l.length),j<k->f l[j]=0)(F:f l[k]≠0):xK (l.map f)=f l[k]:=by
 have:=YR (l:=l.map f) (k:=k) bf (fun j hj hjk=>by rw[List.getElem_map];exact h j (by simpa using hj) hjk) (by rw[List.getElem_map];exact F);rwa[List.getElem_map]at this
theorem vM{op:Oper}{Q:Exit->Act->World->Prop}(hgd:op.guard=none)(E:TypeId)(x:Operand)(ho:op.op= .load E x)
  (b o:Nat) (hx:a.eval x= .pointer (some ⟨b,o,none⟩)) (cs:List Value) (hc:w.rangeAt b o cs) (d:TypeDesc)
  (hu:P.underlying E=some d) (hd:d.isRow=true) (hi:(P.info? E).map (·.size)=some cs.length)
  (h:wpList P ops Q rest (a.put op.dst (.agg cs.toArray)) w):wpList P ops Q (op::rest) a w:=
 wpList_plain hgd fun hb hK=>wp_load_mid E x ho b o hx cs d hc hu hd hi (hK _ _ h)
theorem xd.len{r:RR}(h:xd w cs r):cs.length=33:=by obtain⟨_,_,_,_,_,_,rfl,hr,_⟩:=h;exact uP hr
theorem xd.one{r:RR}(h:xd w cs r):∀v∈cs,v.oneCell'=true:=by obtain⟨_,_,_,_,_,_,rfl,hr,_⟩:=h;exact wj J J J
theorem Fg:∀{l:List Int},xK l=0->∀e∈l,e=0
 |[],_,e,he=>by cases he
 |x::l,h,e,he=>by
  unfold xK at h;by_cases hx:x=0
  ·
   rw[if_neg (by simp[hx])]at h;rcases List.mem_cons.1 he with rfl|he
   ·exact hx
   ·exact Fg h e he
  ·rw[if_pos hx]at h;exact absurd h hx
structure MOk (m:vo):Prop where
 hd:m.hd.ok=true
 lq:m.qs.length<=65535
 la:m.an.length<=65535
 lu:m.au.length<=65535
 le:m.ex.length<=65535
 q:∀q∈m.qs,tY q.name=0
 r:∀r∈m.BD,uk r=0
theorem Pb{m:vo}(h:vU m=0):MOk m:=by
 unfold vU at h;cases O:m.hd.ok with
 |false=>rw[if_pos O]at h;cases h
 |true=>
  rw[if_neg (by simp[O])]at h;by_cases U:65535<m.qs.length\/65535<m.an.length\/65535<m.au.length\/65535<m.ex.length
  ·rw[if_pos U]at h;cases h
  ·
   rw[if_neg U]at h;by_cases X:xK (m.qs.map qE)=0
   ·
    rw[if_neg (by simp[X])]at h;refine⟨O,I,I,I,I,fun q hq=>?_,fun r hr=>Fg h _ (List.mem_map_of_mem hr)⟩;have:=Fg X _ (List.mem_map_of_mem hq);unfold qE at this;by_cases h3:tY q.name=0
    ·exact h3
    ·rw[if_pos h3]at this;exact this
   ·rw[if_pos X]at h;exact absurd h X
theorem TH(l:List Qn)(k:Nat)(st:WS):((l.take k).foldl vC st).1.length<=(l.foldl vC st).1.length:=by
 conv=>rhs;rw[<-List.take_append_drop k l,List.foldl_append]
 exact Nt _ _
theorem TJ(l:List RR)(k:Nat)(st:WS):((l.take k).foldl tZ st).1.length<=(l.foldl tZ st).1.length:=by
 conv=>rhs;rw[<-List.take_append_drop k l,List.foldl_append]
 exact zt _ _
theorem Ed{α β:Type}(f:β->α->β)(l:List α)(k:Nat)(O:k<l.length)(st:β):(l.take (k+1)).foldl f st=f ((l.take k).foldl f st) l[k]:=by
 rw[List.take_succ_eq_append_getElem O,List.foldl_append];rfl
theorem yQ.mono{T:Option Bp}{a:Nat}(h:yQ T a)(hab:a<=b):yQ T b:=fun T' e=>Nat.le_trans (h T' e) hab
theorem YT{st:WS}{k:Nat}(h:yQ st.2 k)(q:Qn):yQ (vC st q).2 (k+254):=h.put _ _
theorem TL{st:WS}{k:Nat}(h:yQ st.2 k)(r:RR):yQ (tZ st r).2 (k+762):=by
 have U:yQ (zA st r) (k+254):=h.put _ _;change yQ (DG (zA st r) ((yz st r).length+2) r) (k+762);unfold DG;split
 ·exact(U.put _ _).mono I
 split
 ·exact((U.put _ _).put _ _).mono I
 ·exact U.mono I
theorem Fh:∀(l:List Qn) (st:WS) (k:Nat),yQ st.2 k->yQ (l.foldl vC st).2 (k+254*l.length)
 |[],st,k,h=>h
 |q::l,st,k,h=>(Fh l (vC st q) (k+254) (YT h q)).mono az
theorem Fi:∀(l:List RR) (st:WS) (k:Nat),yQ st.2 k->yQ (l.foldl tZ st).2 (k+762*l.length)
 |[],st,k,h=>h
 |r::l,st,k,h=>(Fi l (tZ st r) (k+762) (TL h r)).mono az
theorem Nv(m:vo)(pack:Bool):yQ (wO m pack).2 0:=by
  intro T' h;cases pack with
  |false=>cases h
  |true=>(obtain rfl:[]=T':=by simpa[wO]using h);simp
theorem Hs{m:vo}(pack:Bool)(h:vU m≠0):vg m pack=([],vU m):=by unfold vg;rw[if_pos h]
theorem Fj{m:vo}(pack:Bool)(h:vU m=0)(hl:65535<(DJ m pack).1.length):vg m pack=([],3):=by unfold vg;rw[if_neg (by simp[h]),if_pos hl]
theorem J1{m:vo}(pack:Bool)(h:vU m=0)(hl:¬65535<(DJ m pack).1.length):vg m pack=((DJ m pack).1,0):=by unfold vg;rw[if_neg (by simp[h]),if_neg hl]
theorem Vg(m:vo)(pack:Bool):DJ m pack=m.ex.foldl tZ (m.au.foldl tZ (m.an.foldl tZ (m.qs.foldl vC (wO m pack)))):=by
 unfold DJ vo.BD;rw[List.foldl_append,List.foldl_append]
theorem Iz(m:vo)(pack:Bool):(wO m pack).1.length=12:=by simp[wO,wW,tR]
theorem TM{Q:Exit->Act->World->Prop}(hgd:o.guard=none)(t1 t2:TypeId)(x:Operand)(ho:o.op= .convert t1 t2 x)(v:Value)(hx:a.eval x=v)
  (hr:(convert t1 t2 v).run P w= .ok v' w') (h:wpList P ops Q rest (a.put o.dst v') w'):wpList P ops Q (o::rest) a w:=by
 exact rp
theorem DF.grown{T:Option Bp}{row:Option Nat}(h:DF lo w p T)(hg:w.grownBy w' row)(hne:∀k,row=some k->∃cs t fz,w.heap[k]?=some (.cells cs t fz)/\t≠315):DF lo w' p T:=by
 cases T with
 |none=>exact h
 |some T=>
  obtain⟨g,b,U,X,h3,h4,⟨f,h5,h6⟩,h7⟩:=h;have n1:some g≠row:=by intro he;obtain⟨cs,t,fz,hh,ht⟩:=hne g he.symm;have h4':w.heap[g]?=_:=h4;rw[hh]at h4';injection h4' with h4';injection h4' with _ h4';exact ht h4'
  have n2:some b≠row:=by intro he;obtain⟨cs,t,fz,hh,ht⟩:=hne b he.symm;obtain⟨D,⟨es,N,hm,_⟩,_⟩:=h5;rw[hh]at hm;cases hm
  exact⟨g,b,U,X,h3,h4.grown hg n1,⟨f,h5.kept hg n2,h6⟩,h7⟩
def zg(lo:Nat)(w:World)(gw:Nat)(s:List UInt8)(p:Option Addr)(T:Option Bp):Prop:=
 ∃A c,lo<=gw/\Z w gw 277 [.slice A s.length c,.pointer p]/\AF w lo (.slice A s.length c) s/\DF lo w p T
theorem zg.G{T:Option Bp}(h:zg lo w gw s p T)(F:al w w'):zg lo w' gw s p T:=by
 obtain⟨A,c,U,X,h3,h4⟩:=h;exact⟨A,c,U,X.G F X.lt,h3.G F,h4.G F⟩
def vY(lo:Nat)(w w':World):Prop:=Below lo w w'/\∀g t cs,Z w g t cs->t≠277->t≠5->Z w' g t cs
theorem vY.trans(h:vY lo w w1)(h':vY lo w1 w2):vY lo w w2:=⟨h.1.trans h'.1,fun k t cs F U X=>h'.2 k t cs (h.2 k t cs F U X) U X⟩
theorem vY.zq(h:al w w1)(tK:lo<=w.heap.size):vY lo w w1:=⟨h.mono tK,fun k t cs F _ _=>F.G h F.lt⟩
theorem vY.YU(h:zT lo w w1):vY lo w w1:=⟨h.1,fun k t cs F _ _=>h.uG F⟩
theorem vY.size(h:vY lo w w1)(tK:lo<=w.heap.size):lo<=w1.heap.size:=vV h.1 tK
theorem Pc{T:Option Bp}{A':Option Addr}{c c':Nat}(tK:lo<=w.heap.size)(U:lo<=gw)(X:Z w gw 277 [.slice A s.length c,.pointer p])(h3:AF w lo (.slice A s.length c) s)(h4:DF lo w p T)
  (k1:AF w1 lo (.slice A' (s++x).length c') (s++x)) (g1:w.grownBy w1 (Value.slice A s.length c).ownBlock) (k2:Z w2 gw 277 [.slice A' (s++x).length c',.pointer p]) (g2:w1.grownBy w2 (some gw)):
  zg lo w2 gw (s++x) p T/\vY lo w w2:=by
 have b1:Z w1 gw 277 [.slice A s.length c,.pointer p]:=X.grown g1 (h3.ne X ax);have t1:DF lo w1 p T:=h4.grown g1 (by
  intro k O;rcases h3 with⟨hv,_⟩|⟨g,cap,cur,fz,hv,hB,hh,_⟩
  ·rw[hv]at O;simp[Value.ownBlock]at O
  ·
   rw[hv]at O;obtain rfl:g=k:=iE;exact⟨_,_,_,hh,ax⟩)
 have t2:DF lo w2 p T:=t1.grown g2 (by
  intro k O;obtain rfl:=Option.some.inj O;exact⟨_,_,_,b1,ax⟩)
 have o2:AF w2 lo (.slice A' (s++x).length c') (s++x):=k1.kept g2 (.inr (fun he=>k1.ne b1 ax he.symm));have B1:Below lo w w1:=(Below.refl _ _).grown g1 tK h3.base;have B2:Below lo w w2:=tN B1 g2 (vV B1 tK) U;refine⟨⟨A',c',U,k2,o2,t2⟩,B2,fun g t cs F n1 n2=>?_⟩;have hb1:Z w1 g t cs:=F.grown g1 (h3.ne F n2);refine hb1.grown g2 ?_;intro he;obtain rfl:=Option.some.inj he;have hh:w1.heap[g]?=_:=hb1;have b1':w1.heap[g]?=_:=b1;exact sU
def Jo(lo gw:Nat)(p:Option Addr)(v:Value)(s:List UInt8)(T:Option Bp)(w:World)(x:Ending)(w':World):Prop:=
 x= .returned v/\zg lo w' gw s p T/\vY lo w w'
theorem DK:(prog.info? 145).map (·.size)=some 1:=by kernel_rfl
theorem QB{E:TypeId}(sl y:Operand)(ho:o.op= .call {callee:=.builtin .append,args:= #[sl,y],argTypes:= #[145,9]})(hty:o.type=E)(hs:a.eval sl=v)(hy:a.eval y= .string (bs x))
  (hr:(Builtin.append_ #[145,9] E #[v,.string (bs x)]).run prog w= .ok v' w'):(execOp a.eval o).run prog w= .ok (.value v') w':=by
 exact pF
theorem QD(lo gw:Nat)(s:List UInt8)(p:Option Addr)(T:Option Bp)(width n:Int)(w:World)(hW:zg lo w gw s p T)(tK:lo<=w.heap.size)(hl:s.length<=10000000):
  Calls prog 209 #[.pointer (some ⟨gw,0,none⟩),.int .i64 width,.int .i64 n] w (Jo lo gw p (.tuple #[]) (s++tT (hw width) n) T w):=by
 obtain⟨A,c,U,X,h3,h4⟩:=hW;have P:=Y (fun w=>wi width n w);have xl:(tT (hw width) n).length<=4:=by rw[tR];exact XY width
 generalize tT (hw width) n=x at*;go_enter func209,ntmps209;go_wp2_with fail;refine wp_region_held_drew (S:=fun _=>True) (by kernel_rfl) trivial (fun M=>?_);have hD:Below w.heap.size w w.drew:=iH
 (refine ag 0 (some 6) J J (by kernel_rfl) (fun W hW=>rfl) M ?_;simp only[z])
 (refine ag 1 (some 7) J J (by kernel_rfl) (fun W hW=>rfl) M ?_;simp only[z])
 (refine ag 2 (some 8) J J (by kernel_rfl) (fun W hW=>rfl) M ?_;simp only[z])
 (refine ag 3 (some 9) J J (by kernel_rfl) (fun W hW=>rfl) M ?_;simp only[z])
 (refine ag 5 (some 11) J J (by kernel_rfl) (fun W hW=>rfl) M ?_;simp only[z])
 (refine ag 6 (some 12) J J (by kernel_rfl) (fun W hW=>rfl) M ?_;simp only[z])
 refine xu 4 7 (by kernel_rfl) ?_ ?_
 ·
  refine xv 4 (some 10) 145 (.tmp 9) ⟨gw,0,none⟩ J J J J (by kernel_rfl) (tV underlying145 J (X.K 0 J)) ?_;refine⟨trivial,?_⟩;simp only[z];refine um 7 (by kernel_rfl) ?_;refine vO 7 (some 13) 117 #[.int .i64 width,.int .i64 n] J J (by kernel_rfl) bm (P.out _) ?_;rintro _ w1 ⟨rfl,b1⟩;replace b1:=hD.trans b1;refine⟨_,J,trivial,?_⟩;simp only[z];obtain⟨v',w2,hr,k1,g1⟩:=Kx w1 145 lo _ s x (h3.G b1) (Nat.le_trans tK b1.size) I;obtain⟨A',c',rfl⟩:=k1.form;refine um 8 (by kernel_rfl) ?_;refine uM 8 (some 14) J J (by kernel_rfl) (QB (.tmp 10) (.tmp 13) J J J J hr) ?_;refine⟨trivial,?_⟩;simp only[z]
  (refine ag 9 (some 15) J J (by kernel_rfl) (fun W hW=>rfl) M ?_;simp only[z])
  (refine ag 10 (some 16) J J (by kernel_rfl) (fun W hW=>rfl) M ?_;simp only[z])
  refine um 11 (by kernel_rfl) ?_;have B2:=(X.G b1 X.lt).grown g1 ((h3.G b1).ne (X.G b1 X.lt) ax);refine xx 11 145 (.tmp 16) (.tmp 14) J J J (by kernel_rfl) gw 0 J _ J B2 ap DK J J ?_;intro w3 hb3 hg3 hs3;refine⟨trivial,?_⟩;simp only[z];refine wpAnyH_done (by kernel_rfl) ?_ _;exact qd
 ·
  refine vO 7 (some 13) 117 #[.int .i64 width,.int .i64 n] J J (by kernel_rfl) bm (P.out _) ?_;rintro _ w1 ⟨rfl,b1⟩;replace b1:=hD.trans b1;refine⟨_,J,trivial,?_⟩;simp only[z];refine um 4 (by kernel_rfl) ?_;refine xv 4 (some 10) 145 (.tmp 9) ⟨gw,0,none⟩ J J J J (by kernel_rfl) (tV underlying145 J ((X.G b1 X.lt).K 0 J)) ?_;refine⟨trivial,?_⟩;simp only[z];obtain⟨v',w2,hr,k1,g1⟩:=Kx w1 145 lo _ s x (h3.G b1) (Nat.le_trans tK b1.size) I;obtain⟨A',c',rfl⟩:=k1.form;refine um 8 (by kernel_rfl) ?_;refine uM 8 (some 14) J J (by kernel_rfl) (QB (.tmp 10) (.tmp 13) J J J J hr) ?_;refine⟨trivial,?_⟩;simp only[z]
  (refine ag 9 (some 15) J J (by kernel_rfl) (fun W hW=>rfl) M ?_;simp only[z])
  (refine ag 10 (some 16) J J (by kernel_rfl) (fun W hW=>rfl) M ?_;simp only[z])
  refine um 11 (by kernel_rfl) ?_;have B2:=(X.G b1 X.lt).grown g1 ((h3.G b1).ne (X.G b1 X.lt) ax);refine xx 11 145 (.tmp 16) (.tmp 14) J J J (by kernel_rfl) gw 0 J _ J B2 ap DK J J ?_;intro w3 hb3 hg3 hs3;refine⟨trivial,?_⟩;simp only[z];refine wpAnyH_done (by kernel_rfl) ?_ _;exact qd
theorem Nw(lo gw:Nat)(s:List UInt8)(p:Option Addr)(T:Option Bp)(An:Option Addr)(cn:Nat)(n:List (List UInt8))(w:World)(hW:zg lo w gw s p T)(hN:xj w An cn n)(tK:lo<=w.heap.size)(hl:s.length<=10000000)(hf:yQ T 900000):
  Calls prog 208 #[.pointer (some ⟨gw,0,none⟩),.slice An n.length cn] w (Jo lo gw p (.int .i64 (tY n)) (s++uE T s.length n) (vf T s.length n) w):=by
 obtain⟨A,c,U,X,h3,h4⟩:=hW;have P:=Y (fun w' (b:al w w')=>Hn lo p T An cn n (s.length:Int) w' (Nat.le_trans tK b.size) (h4.G b) (hN.G b) hf);have xl:=wL T (s.length:Int) n;generalize uE T (s.length:Int) n=x at*;generalize vf T (s.length:Int) n=T' at*;generalize tY n=e at*;generalize n.length=nl at*;clear hN hf h4;go_enter func208,ntmps208;go_wp2_with fail;refine wp_region_held_drew (S:=fun W=>Z W gw 277 [.slice A s.length c,.pointer p]) (by kernel_rfl) X.drew (fun M=>?_);have hD:Below w.heap.size w w.drew:=iH
 (refine ag 0 (some 8) J J (by kernel_rfl) (fun W hW=>rfl) M ?_;simp only[z])
 (refine ag 1 (some 9) J J (by kernel_rfl) (fun W hW=>rfl) M ?_;simp only[z])
 (refine ag 2 (some 10) J J (by kernel_rfl) (fun W hW=>rfl) M ?_;simp only[z])
 refine uZ 3 (some 11) 275 (.tmp 10) ⟨gw,1,none⟩ J J J J (by kernel_rfl) (by kernel_rfl) (by kernel_rfl) (fun _ _ _ h=>h) (by kernel_rfl) (fun W hW=>tV underlying275 J (hW.K 1 J)) M ?_;simp only[z]
 (refine ag 4 (some 12) J J (by kernel_rfl) (fun W hW=>rfl) M ?_;simp only[z])
 (refine ag 5 (some 13) J J (by kernel_rfl) (fun W hW=>rfl) M ?_;simp only[z])
 (refine ag 6 (some 14) J J (by kernel_rfl) (fun W hW=>rfl) M ?_;simp only[z])
 (refine ag 7 (some 15) J J (by kernel_rfl) (fun W hW=>rfl) M ?_;simp only[z])
 refine uZ 8 (some 16) 145 (.tmp 15) ⟨gw,0,none⟩ J J J J (by kernel_rfl) (by kernel_rfl) (by kernel_rfl) (fun _ _ _ h=>h) (by kernel_rfl) (fun W hW=>tV underlying145 J (hW.K 0 J)) M ?_;simp only[z];refine ag 9 (some 17) (v:=.int .i64 (s.length:Int)) J J (by kernel_rfl) (fun W hW=>by go_simp) M ?_;simp only[z];refine uO 10 (some 18) 236 #[.pointer p,.slice An nl cn,.int .i64 (s.length:Int)] (by kernel_rfl) J J (by kernel_rfl) bm (P.out _ hD) ?_;rintro _ w1 ⟨rfl,hT1,hK1⟩;have B1:=hK1.uG X.drew;have O1:AF w1 lo (.slice A s.length c) s:=by
  rcases h3 with hn|⟨g,cap,cur,fz,hv,hB,hh,rest⟩
  ·exact .inl hn
  ·exact .inr ⟨g,cap,cur,fz,hv,hB,hK1.2 g _ cur fz hh,rest⟩
 have K1:vY lo w w1:=(vY.zq hD tK).trans (vY.YU hK1);have arW:=K1.size tK;refine⟨_,J,B1,?_⟩;clear M hK1 P hD X h3;have M:=B1;simp only[z]
 (refine ag 11 (some 7) J J (by kernel_rfl) (fun W hW=>rfl) M ?_;simp only[z])
 (refine ag 12 (some 19) J J (by kernel_rfl) (fun W hW=>rfl) M ?_;simp only[z])
 (refine ag 13 (some 20) J J (by kernel_rfl) (fun W hW=>rfl) M ?_;simp only[z])
 (refine ag 14 (some 5) J J (by kernel_rfl) (fun W hW=>rfl) M ?_;simp only[z])
 (refine ag 15 (some 6) J J (by kernel_rfl) (fun W hW=>rfl) M ?_;simp only[z])
 refine wpAnyH_done (by kernel_rfl) ?_ _;clear M;have c0:=B1.K 0 J;go_wp2_with(at_builtin;go_must(refine Hc _ J (.tmp 25) (.tmp 26) J lo _ s x J O1 arW J I ?_));intro A' c' w2 k1 g1;have B2:=B1.grown g1 (O1.ne B1 ax);clear c0;go_wp2_with(refine tO (.store 145 (.tmp 29) (.tmp 27)) J (af J gw 0 _ B2 ap DK ?_));intro w3 hb3 hg3 hs3;rw[<-List.length_append]at hb3 k1;obtain⟨R1,R2⟩:=Pc (x:=x) arW U B1 O1 hT1 k1 g1 hb3 hg3;have R3:=K1.trans R2;clear hb3 hg3 hs3 B2 g1 k1 R2 B1 O1;exact tI
theorem vY.aa8(h:vY lo w w')(F:Z w g 28 cs):Z w' g 28 cs:=h.2 g _ cs F ax ax
theorem vY.aa9(h:vY lo w w')(F:Z w g 119 cs):Z w' g 119 cs:=h.2 g _ cs F ax ax
theorem Di(lo gw:Nat)(s:List UInt8)(p:Option Addr)(T:Option Bp)(n:Int)(w:World)(hW:zg lo w gw s p T)(tK:lo<=w.heap.size)(hl:s.length<=10000000):
  Calls prog 209 #[.pointer (some ⟨gw,0,none⟩),.int .i64 2,.int .i64 n] w (Jo lo gw p (.tuple #[]) (s++tT 2 n) T w):=QD lo gw s p T 2 n w hW tK hl
theorem Wk(lo gw:Nat)(s:List UInt8)(p:Option Addr)(T:Option Bp)(n:Int)(w:World)(hW:zg lo w gw s p T)(tK:lo<=w.heap.size)(hl:s.length<=10000000):
  Calls prog 209 #[.pointer (some ⟨gw,0,none⟩),.int .i64 4,.int .i64 n] w (Jo lo gw p (.tuple #[]) (s++tT 4 n) T w):=QD lo gw s p T 4 n w hW tK hl
theorem Mw(lo gw:Nat)(st:WS)(p:Option Addr)(An:Option Addr)(cn:Nat)(q:Qn)(w0 w:World)(hW:zg lo w gw st.1 p st.2)(hN:xj w0 An cn q.name)(h0:w0.heap.size<=lo)(hb0:al w0 w)(tK:lo<=w.heap.size)(hl:st.1.length<=5000000)(hf:yQ st.2 900000):
  Calls prog 169 #[.pointer (some ⟨gw,0,none⟩),.agg (qC (.slice An q.name.length cn) q).toArray] w (Jo lo gw p (.int .i64 (tY q.name)) (vC st q).1 (vC st q).2 w):=by
 have P:=Y (fun w' (b:al w w')=>Nw lo gw st.1 p st.2 An cn q.name w' (hW.G b) ((hN.G hb0).G b) (Nat.le_trans tK b.size) I hf);have xl:=wL st.2 (st.1.length:Int) q.name;have y1:=tR 2 q.E;obtain⟨s',hs'⟩:∃s',s'=(vC st q).1:=gp;rw[<-hs'];have HS:=Y hs';clear hs';replace HS:Hid (s'=st.1++uE st.2 st.1.length q.name++tT 2 q.E++tT 2 q.N):=HS;have hT':(vC st q).2=vf st.2 st.1.length q.name:=rfl;rw[hT'];clear hT';have N1:=Y (fun w' (hW:zg lo w' gw (st.1++uE st.2 st.1.length q.name) p (vf st.2 st.1.length q.name)) (tK:lo<=w'.heap.size)=>Di lo gw _ p _ q.E w' hW tK az);have N2:=Y (fun w' (hW:zg lo w' gw (st.1++uE st.2 st.1.length q.name++tT 2 q.E) p (vf st.2 st.1.length q.name)) (tK:lo<=w'.heap.size)=>Di lo gw _ p _ q.N w' hW tK (by simp[y1];omega));generalize st.1++uE st.2 st.1.length q.name++tT 2 q.E++tT 2 q.N=s3 at*;obtain rfl:=HS.out;clear HS;generalize st.1++uE st.2 st.1.length q.name++tT 2 q.E=s2 at*;generalize st.1++uE st.2 st.1.length q.name=s1 at*;generalize vf st.2 st.1.length q.name=T1 at*;generalize tY q.name=e at*;unfold qC;generalize q.name.length=nl,q.E=E,q.N=N at*;clear hN hb0 hf hW xl y1;have B0:=Z.new w 28 [.slice An nl cn,.int .i64 E,.int .i64 N];have HB0:Below w.heap.size w (w.alloc (.cells #[.slice An nl cn,.int .i64 E,.int .i64 N] 28)):=gj;have c0:=B0.K 0 J;go_enter func169,ntmps169;go_wp2_with fail;refine(P.out _ HB0).mono ?_;rintro _ w1 ⟨rfl,W1,K1⟩;have B1:=K1.aa8 B0;have K1':vY lo w w1:=(vY.zq HB0 tK).trans K1;clear c0 P K1 B0 HB0;have c1:=B1.K 1 J;go_wp2_with fail;refine(N1.out _ W1 (K1'.size tK)).mono ?_;rintro _ w2 ⟨rfl,W2,K2⟩;have B2:=K2.aa8 B1;have K2':vY lo w w2:=K1'.trans K2;clear c1 N1 K2 B1 K1' W1;have c2:=B2.K 2 J;go_wp2_with fail;refine(N2.out _ W2 (K2'.size tK)).mono ?_;rintro _ w3 ⟨rfl,W3,K3⟩;have K3':vY lo w w3:=K2'.trans K3;clear c2 N2 K3 B2 K2' W2;go_wp2_with fail;go_ret;exact⟨J,W3,K3'⟩
theorem QF(lo gw:Nat)(s:List UInt8)(p:Option Addr)(T:Option Bp)(e:Int)(w:World)(hW:zg lo w gw s p T)(hl:s.length<=10000000):
  Calls prog 168 #[.pointer (some ⟨gw,0,none⟩),.int .i64 e] w (yi (.int .i64 (if e=0/\65535<s.length then 3 else e)) w):=by
 obtain⟨A,c,U,X,h3,h4⟩:=hW;have c0:=X.K 0 J;by_cases he:e=0
 ·
  have e1:(e==0)=true:=iu;by_cases hs:65535<s.length
  ·have e2:(65535:Int)<s.length:=I;rw[if_pos ⟨he,hs⟩];go_enter func168,ntmps168;exact oU
  ·have e2:¬(65535:Int)<s.length:=I;rw[if_neg (fun h=>hs h.2)];go_enter func168,ntmps168;exact oU
 ·have e1:(e==0)=false:=iu;rw[if_neg (fun h=>he h.1)];clear he;go_enter func168,ntmps168;exact oU
theorem IA{r:RR}(hw:r.wf)(hc:uk r=0)(T:Option Bp)(ud:Int):(yx T ud r).length<=70000:=by
 have hE:=(Fc hc).2;have h16:=hw.1;have h5:=hw.2;unfold yx;unfold yd at hE;split
 ·simp;omega
 split
 ·omega
 split
 ·have:=wL T ud r.tg;omega
 split
 ·have:=wL none 0 r.tg;have e:uE none 0 r.tg=yw r.tg:=rfl;rw[e]at this;simp[tR];omega
 split
 ·
  have a1:=wL T ud r.tg;have a2:=wL (vf T ud r.tg) (ud+(uE T ud r.tg).length) r.ml;have a3:(r.h1.flatMap (tT 4)).length=20:=by
   match r.h1,h5 with
   |[a,b,c,d,e],_=>simp[tR]
  simp only[List.length_append];omega
 ·
  rw[if_neg ‹_›,if_neg ‹_›,if_neg ‹_›,if_neg ‹_›,if_neg ‹_›]at hE;by_cases h:65535<r.raw.length
  ·rw[if_pos h]at hE;cases hE
  ·omega
theorem Ew(lo gw:Nat)(st:WS)(p:Option Addr)(cs:List Value)(r:RR)(w0 w:World)(hW:zg lo w gw st.1 p st.2)(hR:xd w0 cs r)(h0:w0.heap.size<=lo)(hb0:al w0 w)(tK:lo<=w.heap.size)(hl:st.1.length<=500000)(hf:yQ st.2 700000)(hc:uk r=0):
  Calls prog 171 #[.pointer (some ⟨gw,0,none⟩),.agg cs.toArray] w (Jo lo gw p (.int .i64 0) (tZ st r).1 (tZ st r).2 w):=by
 have arT:=(Fc hc).1;obtain⟨An,cn,L0,hN,hwf,hcl⟩:∃An cn,cs[0]?=some (.slice An r.name.length cn)/\xj w0 An cn r.name/\r.wf/\cs.length=33:=by obtain⟨An,cn,At,ct,Am,cm,rfl,hr,hN,_⟩:=hR;exact⟨An,cn,J,hN,hr,uP hr⟩
 have L1:cs[1]?=some (.int .i64 r.E):=iS;have L2:cs[2]?=some (.int .i64 r.N):=iS;have L3:cs[3]?=some (.int .i64 r.ak):=iS;have P:=Y (fun w' (b:al w w')=>Nw lo gw st.1 p st.2 An cn r.name w' (hW.G b) ((hN.G hb0).G b) (Nat.le_trans tK b.size) I (fun T' h=>Nat.le_trans (hf T' h) I));rw[arT]at P;have xl:=wL st.2 (st.1.length:Int) r.name;have y1:=tR 2 r.E;have y2:=tR 2 r.N;have y3:=tR 4 r.ak;have hfT:yQ (zA st r) 800000:=fun T' h=>Nat.le_trans ((hf.put _ _) T' h) I
 have hsl:(yz st r).length<=501000:=by simp only[yz,List.length_append];omega
 have hdl:=IA hwf hc (zA st r) ((yz st r).length+2);have D:=Y (fun w' (b:Below lo w w') (aiF:lo<=w'.heap.size) (hT':DF lo w' p (zA st r))=>YJ lo cs r ((yz st r).length+2) p (zA st r) w0 w' hR h0 (hb0.trans (b.mono h0)) aiF hT' hfT I I);have er1:Gk (zA st r) ((yz st r).length+2) r=yR st r:=by unfold Gk;rw[if_pos hc];rfl
 have er2:Gl (zA st r) ((yz st r).length+2) r=(tZ st r).2:=by unfold Gl;rw[if_pos hc];rfl
 rw[er1,er2,hc]at D;replace hdl:(yR st r).length<=70000:=hdl;have hs':(tZ st r).1=yz st r++tT 2 (yR st r).length++yR st r:=rfl;have y4:=tR 2 ((yR st r).length:Int);rw[hs'];have N1:=Y (fun w' (hW:zg lo w' gw (st.1++uE st.2 st.1.length r.name) p (zA st r)) (tK:lo<=w'.heap.size)=>Di lo gw _ p _ r.E w' hW tK az);have N2:=Y (fun w' (hW:zg lo w' gw (st.1++uE st.2 st.1.length r.name++tT 2 r.E) p (zA st r)) (tK:lo<=w'.heap.size)=>Di lo gw _ p _ r.N w' hW tK az);have N3:=Y (fun w' (hW:zg lo w' gw (st.1++uE st.2 st.1.length r.name++tT 2 r.E++tT 2 r.N) p (zA st r)) (tK:lo<=w'.heap.size)=>Wk lo gw _ p _ r.ak w' hW tK az);have N4:=Y (fun w' (hW:zg lo w' gw (yz st r) p (tZ st r).2) (tK:lo<=w'.heap.size)=>Di lo gw _ p _ ((yR st r).length:Int) w' hW tK I);have aEX:(yz st r++tT 2 (yR st r).length).length<=600000:=dE;clear hs' er1 er2 hfT hR hf hN hb0 hW hwf hc;change Hid (∀w':World,zg lo w' gw (st.1++uE st.2 st.1.length r.name++tT 2 r.E++tT 2 r.N) p (zA st r)->lo<=w'.heap.size->Calls prog 209 #[.pointer (some ⟨gw,0,none⟩),.int .i64 4,.int .i64 r.ak] w' (Jo lo gw p (.tuple #[]) (yz st r) (zA st r) w'))at N3;change Hid (∀w':World,al w w'->Calls prog 208 #[.pointer (some ⟨gw,0,none⟩),.slice An r.name.length cn] w' (Jo lo gw p (.int .i64 0) (st.1++uE st.2 st.1.length r.name) (zA st r) w'))at P;generalize(tZ st r).2=T2 at*;generalize yR st r=d at*;generalize yz st r=s4 at*;generalize zA st r=T1 at*;generalize st.1++uE st.2 st.1.length r.name++tT 2 r.E++tT 2 r.N=s3 at*;generalize st.1++uE st.2 st.1.length r.name++tT 2 r.E=s2 at*;generalize st.1++uE st.2 st.1.length r.name=s1 at*;generalize r.name.length=nl,r.E=E at*;generalize r.N=N,r.ak=ak at*;clear xl y1 y2 y3;have B0:=Z.new w 119 cs;have HB0:Below w.heap.size w (w.alloc (.cells cs.toArray 119)):=gj;have c0:=B0.K 0 L0;go_enter func171,ntmps171;go_wp2_with fail;refine(P.out _ HB0).mono ?_;rintro _ w1 ⟨rfl,W1,K1⟩;have B1:=K1.aa9 B0;have K1':vY lo w w1:=(vY.zq HB0 tK).trans K1;clear c0 P K1 B0 HB0 L0;have c1:=B1.K 1 L1;go_wp2_with fail;refine(N1.out _ W1 (K1'.size tK)).mono ?_;rintro _ w2 ⟨rfl,W2,K2⟩;have B2:=K2.aa9 B1;have K2':vY lo w w2:=K1'.trans K2;clear c1 N1 K2 B1 K1' W1 L1;have c2:=B2.K 2 L2;go_wp2_with fail;refine(N2.out _ W2 (K2'.size tK)).mono ?_;rintro _ w3 ⟨rfl,W3,K3⟩;have B3:=K3.aa9 B2;have K3':vY lo w w3:=K2'.trans K3;clear c2 N2 K3 B2 K2' W2 L2;have c3:=B3.K 3 L3;go_wp2_with fail;refine(N3.out _ W3 (K3'.size tK)).mono ?_;rintro _ w4 ⟨rfl,W4,K4⟩;have B4:=K4.aa9 B3;have K4':vY lo w w4:=K3'.trans K4;have afL:=K4'.size tK;clear c3 N3 K4 B3 K3' W3 L3;obtain⟨A,c,U,X,h3,h4⟩:=W4;go_wp2_with fail;have hw1:IntKind.i64.wrap ((s4.length:Int)+2)=(s4.length:Int)+2:=jc;refine wp_region_held_drew (S:=fun W=>Z W gw 277 [.slice A s4.length c,.pointer p]/\Z W w.heap.size 119 cs) (by kernel_rfl) ⟨X.drew,B4.drew⟩ (fun M=>?_);have hD:Below w4.heap.size w4 w4.drew:=iH;refine uZ 0 (some 28) 119 (.tmp 3) ⟨w.heap.size,0,none⟩ J J J J (by kernel_rfl) (by kernel_rfl) (by kernel_rfl) (fun _ _ _ h=>h) (by kernel_rfl) (fun W hW=>hW.2.wk 119 0 33 I _ underlying119 J uu cs (wg I)) M ?_;simp only[z]
 (refine ag 1 (some 29) J J (by kernel_rfl) (fun W hW=>rfl) M ?_;simp only[z])
 (refine ag 2 (some 30) J J (by kernel_rfl) (fun W hW=>rfl) M ?_;simp only[z])
 (refine ag 3 (some 31) J J (by kernel_rfl) (fun W hW=>rfl) M ?_;simp only[z])
 refine uZ 4 (some 32) 145 (.tmp 31) ⟨gw,0,none⟩ J J J J (by kernel_rfl) (by kernel_rfl) (by kernel_rfl) (fun _ _ _ h=>h) (by kernel_rfl) (fun W hW=>tV underlying145 J (hW.1.K 0 J)) M ?_;simp only[z];refine ag 5 (some 33) (v:=.int .i64 (s4.length:Int)) J J (by kernel_rfl) (fun W hW=>by go_simp) M ?_;simp only[z];refine ag 6 (some 34) (v:=.int .i64 ((s4.length:Int)+2)) J J (by kernel_rfl) (fun W hW=>by go_simp) M ?_;simp only[z]
 (refine ag 7 (some 35) J J (by kernel_rfl) (fun W hW=>rfl) M ?_;simp only[z])
 (refine ag 8 (some 36) J J (by kernel_rfl) (fun W hW=>rfl) M ?_;simp only[z])
 (refine ag 9 (some 37) J J (by kernel_rfl) (fun W hW=>rfl) M ?_;simp only[z])
 refine uZ 10 (some 38) 275 (.tmp 37) ⟨gw,1,none⟩ J J J J (by kernel_rfl) (by kernel_rfl) (by kernel_rfl) (fun _ _ _ h=>h) (by kernel_rfl) (fun W hW=>tV underlying275 J (hW.1.K 1 J)) M ?_;simp only[z];refine uO 11 (some 39) 210 #[.agg cs.toArray,.int .i64 ((s4.length:Int)+2),.pointer p] (by kernel_rfl) J J (by kernel_rfl) bm (D.out _ (K4'.1.trans (hD.mono afL)) (Nat.le_trans afL hD.size) (h4.G hD)) ?_;rintro _ w5 ⟨rfl,hT5,hK5⟩;have B5:=hK5.uG X.drew;have O5:AF w5 lo (.slice A s4.length c) s4:=by
  rcases h3 with hn|⟨g,cap,cur,fz,hv,hB,hh,rest⟩
  ·exact .inl hn
  ·exact .inr ⟨g,cap,cur,fz,hv,hB,hK5.2 g _ cur fz hh,rest⟩
 have K5:vY lo w w5:=(K4'.trans (vY.zq hD afL)).trans (vY.YU hK5);have ahw:=K5.size tK;refine⟨_,J,⟨B5,hK5.uG B4.drew⟩,?_⟩;replace M:Z w5 gw 277 [.slice A s4.length c,.pointer p]/\Z w5 w.heap.size 119 cs:=⟨B5,hK5.uG B4.drew⟩;clear hK5 D hD X h3 h4 B4 K4' afL;simp only[z]
 (refine ag 12 (some 27) J J (by kernel_rfl) (fun W hW=>rfl) M ?_;simp only[z])
 (refine ag 13 (some 40) J J (by kernel_rfl) (fun W hW=>rfl) M ?_;simp only[z])
 (refine ag 14 (some 41) J J (by kernel_rfl) (fun W hW=>rfl) M ?_;simp only[z])
 refine ag 15 (some 6) (v:=.string (bs d)) J J (by kernel_rfl) (fun W hW=>rfl) M ?_;simp only[z];refine ag 16 (some 7) (v:=.int .i64 0) J J (by kernel_rfl) (fun W hW=>rfl) M ?_;simp only[z];refine wpAnyH_done (by kernel_rfl) ?_ _;clear M;have W5:zg lo w5 gw s4 p T2:=⟨A,c,U,B5,O5,hT5⟩;clear B5 O5 hT5 hw1;go_wp2_with fail;refine(N4.out _ W5 ahw).mono ?_;rintro _ w6 ⟨rfl,W6,K6⟩;have K6':=K5.trans K6;have aib:=K6'.size tK;clear K6 K5 W5 N4 ahw;generalize s4++tT 2 (d.length:Int)=s5 at*;obtain⟨A,c,U,X,h3,h4⟩:=W6;have c0:=X.K 0 J;go_wp2_with(at_builtin;go_must(refine Hc _ J (.tmp 50) (.tmp 51) J lo _ s5 d J h3 aib J I ?_));intro A' c' w7 k1 g1;have B7:=X.grown g1 (h3.ne X ax);clear c0;go_wp2_with(refine tO (.store 145 (.tmp 54) (.tmp 52)) J (af J gw 0 _ B7 ap DK ?_));intro w8 hb8 hg8 hs8;rw[<-List.length_append]at hb8 k1;obtain⟨R1,R2⟩:=Pc (x:=d) aib U X h3 h4 k1 g1 hb8 hg8;have R3:=K6'.trans R2;clear hb8 hg8 hs8 B7 g1 k1 R2 X h3 h4;exact tI
end Go.Proofs.YthnbcmlnpdabhaaGreat
