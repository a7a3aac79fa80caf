/-
  What the reading of an argument says of its cells,kind by kind;and the frame of a law's last step.
-/
import Derived.ProofKit
import Derived.OpenShut
import Derived.ShutString
import Derived.ChangeOld
import Derived.SizedLaws
import Derived.Test.YtakkipnmpmobbaaGreatGGq
import Derived.Test.YtakkipnmpmobbaaGreatGEq
namespace Go.Proofs.YtakkipnmpmobbaaGreat
open _root_.Go.Proofs.Tryz
open Go.ChangeShapes Go.WideShapes Go.ChangeAt Go.RowKit
open Go.ChangeMaps (open_string shut_string)
variable {v:Value} {n:List (List UInt8)} {e t:TypeId} {w:World} {A:Option Addr} {c:Nat} {m:List UInt8}
def Seen{H:Type}(enc:TypeId×Value->H)(P:Program)(w:World)(t:TypeId)(cs:List Value):Prop:=
 ∃aeh x,DataW.trod enc P w 0 (fun _=>true) true aeh t cs=some x
section
variable {H:Type} {enc:TypeId×Value->H} {P:Program} {w:World} {t:TypeId} {cs:List Value}
theorem Seen.of{d:DataW H}{p:List MemPlace}(h:DataW.Trod enc P w 0 (fun _=>true) true t v d p):Seen enc P w t v.cells.toList:=by
 obtain⟨aeh,hf⟩:=h;exact⟨aeh,_,hf⟩
theorem Seen.bool(h:Seen enc P w t cs)(ht:P.underlying t=some .bool):∃b,cs=[.bool b]:=by
 obtain⟨aeh,x,hf⟩:=h;obtain⟨b,Z,_⟩:=DataW.trod_bool ht hf;exact⟨b,Z⟩
theorem Seen.int{k:IntKind}(h:Seen enc P w t cs)(ht:P.underlying t=some (.int k)):∃n,cs=[.int k n]/\(Lit.int k n).wf=true:=by
 obtain⟨aeh,x,hf⟩:=h;obtain⟨n,hn,_,hw⟩:=DataW.trod_int ht hf;exact⟨n,hn,hw⟩
theorem Seen.string(h:Seen enc P w t cs)(ht:P.underlying t=some .string):∃s:ByteArray,cs=[.string s]/\s.size<=maxLen:=by
 obtain⟨aeh,x,hf⟩:=h;obtain⟨s,hs,_,hm⟩:=DataW.trod_string ht hf;exact⟨s,hs,hm⟩
theorem Seen.array{n:Nat}(h:Seen enc P w t cs)(ht:P.underlying t=some (.array n e)):
  cs.length=P.cellsOf t/\∀i,i<n->Seen enc P w e ((cs.drop (i*P.cellsOf e)).take (P.cellsOf e)):=by
 obtain⟨aeh,x,hf⟩:=h;obtain⟨xs,m,_,_,E,hx,hi⟩:=DataW.trod_array ht hf;refine⟨E,fun i hin=>?_⟩;have aA:i<xs.length:=Y;exact⟨m,xs[i],by rw[hi i hin,List.getElem?_eq_getElem aA]⟩
theorem NG{a:Addr}(h:w.cell? a=some v):a.block<w.heap.size:=by
 rcases Nat.lt_or_ge a.block w.heap.size with aA|hge
 ·exact aA
 ·simp[World.cell?,Array.getElem?_eq_none hge]at h
theorem Seen.slice(h:Seen enc P w t cs)(ht:P.underlying t=some (.slice e))(hsz:0<P.cellsOf e):
  ∃A n c,cs=[.slice A n c]/\n<=c/\c<=maxLen/\(0<n->∃b off,A=some ⟨b,off,none⟩/\b<w.heap.size/\
   ∀i,i<n->∃cs',cs'.length=P.cellsOf e/\(∀j,j<P.cellsOf e->w.cell? ⟨b,off+i*P.cellsOf e+j,none⟩=cs'[j]?)/\Seen enc P w e cs'):=by
 obtain⟨aeh,x,hf⟩:=h;rcases Deep.open_slice ht hf with⟨rfl,_⟩|⟨a,len,cap,m,n,D,Pl,rfl,_,E,hm,hmm,_,hi⟩
 ·exact⟨none,0,0,I,Nat.le_refl _,Nat.zero_le _,fun h=>absurd h Y⟩
 ·
  refine⟨some a,len,cap,I,E,hm,fun aid=>?_⟩;have hmc:m=cap:=by simpa using hmm
  obtain⟨cs0,Fs,_⟩:=hi 0 Y;obtain⟨_,au9,aiC⟩:=World.cells?_some Fs;have h00:=aiC 0 hsz;rw[List.getElem?_eq_getElem Y]at h00;have akK:a.spot=none:=by simpa[Addr.add]using World.cell?_spot h00
  have arN:a.block<w.heap.size:=kT;obtain⟨b,off,spot⟩:=a;simp only at akK;subst akK;refine⟨b,off,I,arN,fun i hi'=>?_⟩;obtain⟨cs',hc',ht'⟩:=hi i Y;obtain⟨_,akO,alq⟩:=World.cells?_some hc';refine⟨cs',akO,fun j hj=>?_,n,_,ht'⟩;exact ol
end
theorem agC{α:Type}{l:List α}(h:l.length=1):∃x0,l=[x0]:=by
 match l,h with
 |[x0],_=>exact⟨x0,I⟩
theorem own:ownKnob prog.godebug=none:=by kernel_rfl
theorem laidOut:laidOutB prog=true:=by kernel_rfl
set_option linter.unusedVariables false
def GK{H:Type}(P:Program)(t:TypeId)(d:DataW H):Prop:=∀k∈d.weights P t,k<=reachBytes
theorem yI{H:Type}{P:Program}:∀(ts:List TypeId) (ds:List (DataW H)) (i:Nat) (t:TypeId) (d:DataW H),ts[i]?=some t->ds[i]?=some d->∀k∈d.weights P t,k∈DataW.weightsEach P ts ds
 |t'::ts,d'::ds,0,t,d,ht,hd,k,O=>by
  simp at ht hd;subst ht hd;simp[DataW.weightsEach];exact .inl O
 |t'::ts,d'::ds,i+1,t,d,ht,hd,k,O=>by
  simp at ht hd;simp[DataW.weightsEach];exact .inr (yI ts ds i t d ht hd k O)
 |[],_,i,t,d,ht,hd,k,O=>by simp at ht
 |_::_,[],i,t,d,ht,hd,k,O=>by simp at hd
theorem zg{H:Type}{P:Program}{e:TypeId}:∀(ds:List (DataW H)) (d:DataW H),d∈ds->∀k∈d.weights P e,k∈DataW.weightsAll P e ds
 |d'::ds,d,hd,k,O=>by
  simp only[DataW.weightsAll,List.mem_append];rcases List.mem_cons.1 hd with rfl|h
  ·exact .inl O
  ·exact .inr (zg ds d h k O)
theorem DP{H:Type}{P:Program}{ts:List TypeId}{ds:List (DataW H)}(h:(DataW.weightsEach P ts ds).all (· <=reachBytes)=true){i:Nat}{d:DataW H}(ht:ts[i]?=some t)(hd:ds[i]?=some d):GK P t d:=by
 intro k O;have:=List.all_eq_true.1 h k (yI ts ds i t d ht hd k O);simpa using this
def sj{H:Type}(enc:TypeId×Value->H)(P:Program)(w:World)(t:TypeId)(cs:List Value):Prop:=
 ∃aeh x,DataW.trod enc P w 0 (fun _=>true) true aeh t cs=some x/\GK P t x.1
section
variable {H:Type} {enc:TypeId×Value->H} {P:Program} {w:World} {t:TypeId} {cs:List Value}
theorem sj.of{d:DataW H}{p:List MemPlace}(h:DataW.Trod enc P w 0 (fun _=>true) true t v d p)(E:GK P t d):sj enc P w t v.cells.toList:=by
 obtain⟨aeh,hf⟩:=h;exact⟨aeh,_,hf,E⟩
theorem sj.Za(h:sj enc P w t cs):Seen enc P w t cs:=by
 obtain⟨aeh,x,hf,_⟩:=h;exact⟨aeh,x,hf⟩
theorem sj.bool(h:sj enc P w t cs)(ht:P.underlying t=some .bool):∃b,cs=[.bool b]:=h.Za.bool ht
theorem sj.int{k:IntKind}(h:sj enc P w t cs)(ht:P.underlying t=some (.int k)):∃n,cs=[.int k n]/\(Lit.int k n).wf=true:=h.Za.int ht
theorem sj.string(h:sj enc P w t cs)(ht:P.underlying t=some .string):∃l:List UInt8,cs=[.string (bs l)]/\l.length<=140737488355328:=by
 obtain⟨aeh,x,hf,E⟩:=h;obtain⟨s,hs,hx,hm⟩:=DataW.trod_string ht hf;refine⟨s.data.toList,by rw[hs,<-afr],?_⟩;have:=E s.data.toList.length (by rw[hx];simp[DataW.weights]);unfold reachBytes at this;omega
theorem sj.struct{fs:Array Field}(h:sj enc P w t cs)(ht:P.underlying t=some (.struct fs)):
  cs.length=P.cellsOf t/\∀(i:Nat) (f:Field),fs[i]?=some f->sj enc P w f.type ((cs.drop f.offset).take (P.cellsOf f.type)):=by
 obtain⟨aeh,x,hf,aA⟩:=h;obtain⟨xs,n,_,hxx,E,hx,hi⟩:=DataW.trod_struct ht hf;refine⟨E,fun i f hif=>?_⟩;have h1:i<xs.length:=by rw[hx];exact(Array.getElem?_eq_some_iff.1 hif).1
 refine⟨n,xs[i],by rw[hi i f hif,List.getElem?_eq_getElem h1],?_⟩;intro k O;refine aA k ?_;rw[hxx];simp only[DataW.weights,ht];refine yI _ _ i f.type xs[i].1 ?_ ?_ k O
 ·simp[hif]
 ·simp[List.getElem?_eq_getElem h1]
theorem sj.array{n:Nat}(h:sj enc P w t cs)(ht:P.underlying t=some (.array n e)):
  cs.length=P.cellsOf t/\∀i,i<n->sj enc P w e ((cs.drop (i*P.cellsOf e)).take (P.cellsOf e)):=by
 obtain⟨aeh,x,hf,aA⟩:=h;obtain⟨xs,m,_,hxx,E,hx,hi⟩:=DataW.trod_array ht hf;refine⟨E,fun i hin=>?_⟩;have h1:i<xs.length:=Y;refine⟨m,xs[i],by rw[hi i hin,List.getElem?_eq_getElem h1],?_⟩;intro k O;refine aA k ?_;rw[hxx];simp only[DataW.weights,ht];refine zg _ xs[i].1 ?_ k O;exact List.mem_map.2 ⟨xs[i],List.getElem_mem h1,I⟩
theorem sj.slice(h:sj enc P w t cs)(ht:P.underlying t=some (.slice e))(hsz:0<P.cellsOf e):
  ∃A n c,cs=[.slice A n c]/\n<=c/\c<=maxLen/\n*P.bytesOf e<=140737488355328/\(0<n->∃b off,A=some ⟨b,off,none⟩/\b<w.heap.size/\
   ∀i,i<n->∃cs',cs'.length=P.cellsOf e/\(∀j,j<P.cellsOf e->w.cell? ⟨b,off+i*P.cellsOf e+j,none⟩=cs'[j]?)/\sj enc P w e cs'):=by
 obtain⟨aeh,x,hf,aA⟩:=h;rcases Deep.open_slice ht hf with⟨rfl,_⟩|⟨a,len,cap,m,n,D,Pl,rfl,_,E,hm,hmm,hxx,hi⟩
 ·exact⟨none,0,0,I,Nat.le_refl _,Nat.zero_le _,ar,fun h=>absurd h Y⟩
 ·
  have hmc:m=cap:=by simpa using hmm
  refine⟨some a,len,cap,I,E,hm,?_,fun aid=>?_⟩
  ·have:=aA ((len+(m-len))*P.bytesOf e) (by rw[hxx];simp[DataW.weights,ht]);unfold reachBytes at this;have F:len*P.bytesOf e<=(len+(m-len))*P.bytesOf e:=Nat.mul_le_mul_right _ Y;omega
  obtain⟨cs0,Fs,_⟩:=hi 0 Y;obtain⟨_,au9,aiC⟩:=World.cells?_some Fs;have h00:=aiC 0 hsz;rw[List.getElem?_eq_getElem Y]at h00;have akK:a.spot=none:=by simpa[Addr.add]using World.cell?_spot h00
  have arN:a.block<w.heap.size:=kT;obtain⟨b,off,spot⟩:=a;simp only at akK;subst akK;refine⟨b,off,I,arN,fun i hi'=>?_⟩;obtain⟨cs',hc',ht'⟩:=hi i Y;obtain⟨_,akO,alq⟩:=World.cells?_some hc';refine⟨cs',akO,fun j hj=>?_,n,_,ht',?_⟩
  ·exact ol
  ·intro k O;refine aA k ?_;rw[hxx];simp only[DataW.weights,ht,List.mem_cons,List.mem_append];right;left;exact zg _ (D i) (List.mem_map.2 ⟨i,List.mem_range.2 hi',I⟩) k O
end
def wA(w:World)(A:Option Addr)(c:Nat)(n:List (List UInt8)):Prop:=zN w A n/\n.length<=c/\n.length<=17592186044416/\∀l∈n,l.length<=140737488355328
theorem wA.G{w':World}(h:wA w A c n)(Z:ao w w'):wA w' A c n:=⟨h.1.G Z,h.2⟩
theorem DQ{H:Type}{enc:TypeId×Value->H}{cs:List Value}(ht:prog.underlying t=some (.slice 9))(h:sj enc prog w t cs):∃A c l,cs=[.slice A (l:List (List UInt8)).length c]/\wA w A c l:=by
 have c9:prog.cellsOf 9=1:=by kernel_rfl
 have b9:prog.bytesOf 9=16:=by kernel_rfl
 obtain⟨A,n,c,rfl,hnc,_,hby,hn⟩:=h.slice ht (by rw[c9];omega);rw[b9]at hby;by_cases aid:0<n
 ·
  obtain⟨b,off,rfl,Z,hi⟩:=hn aid;rw[c9]at hi;have key:∀i,i<n->∃t:List UInt8,w.cell? ⟨b,off+i,none⟩=some (.string (bs t))/\t.length<=140737488355328:=by intro i hin;obtain⟨cs',E,hc,hs⟩:=hi i hin;obtain⟨x,rfl⟩:=agC E;obtain⟨s,e,hsl⟩:=hs.string underlying9;simp at e;subst e;refine⟨s,?_,hsl⟩;have:=hc 0 Y;rwa[Nat.mul_one,Nat.add_zero]at this
  obtain⟨f,hf⟩:=Deep.choose_lt key;refine⟨some ⟨b,off,none⟩,c,(List.range n).map f,ar,fun _=>⟨b,off,I,Z,fun i hin=>?_⟩,by simpa using hnc,aB,?_⟩
  ·have anC:i<n:=lk;rw[(hf i anC).1];simp
  ·intro l E;obtain⟨i,hir,rfl⟩:=List.mem_map.1 E;exact(hf i (List.mem_range.1 hir)).2
 ·obtain rfl:n=0:=Y;exact⟨A,c,[],I,fun h=>absurd h ar,ar,ar,ar⟩
open Go.RowKit
set_option maxRecDepth 100000
def aez(m:List UInt8)(s:GS):Prop:=1+sq s.acc=s.size/\s.size<=255/\wJ s.acc/\s.at'<=m.length/\s.bound<=m.length/\∀b,s.behind=some b->b<=m.length
def afC(m:List UInt8):GO->Prop
 | .ok l n=>wJ l/\1+sq l<=255/\n<=m.length
 | .err e=>e=1\/e=3\/e=7\/e=9
 | .go _=>False
theorem wJ.snoc{a:List (List UInt8)}{l:List UInt8}(h:wJ a)(U:1<=l.length)(F:l.length<=63):wJ (a++[l]):=by
 intro x hx;rcases List.mem_append.1 hx with hx|hx
 ·exact h x hx
 ·rw[List.mem_singleton]at hx;subst hx;exact⟨U,F⟩
theorem Lm{s:GS}(hi:aez m s):(∃s',um m s= .go s'/\aez m s')\/(afC m (um m s)/\∀s',um m s≠ .go s'):=by
 obtain⟨at',size,bound,behind,acc⟩:=s;obtain⟨U,F,h3,h4,h5,h6⟩:=hi;simp only at U F h3 h4 h5 h6;obtain⟨c,hc⟩:∃c,c=(m.getD at' 0).toNat:=gh;by_cases e1:m.length<=at'
 ·
  right;have:um m ⟨at',size,bound,behind,acc⟩= .err 1:=by simp[um,e1]
  rw[this];exact⟨.inl I,ar⟩
 by_cases e0:c=0
 ·
  right;rw[Nx e1 (by rw[<-hc,e0])];refine⟨⟨h3,Y,?_⟩,ar⟩;cases behind with
  |none=>simp;omega
  |some b=>simpa using h6 b I
 by_cases e63:c<=63
 ·
  by_cases es:m.length<at'+1+c
  ·right;rw[PQ e1 hc e0 e63 es];exact⟨.inl I,ar⟩
  by_cases ez:255<size+(c+1)
  ·right;rw[Vc e1 hc e0 e63 es ez];exact⟨.inr (.inl I),ar⟩
  left;refine⟨_,Th e1 hc e0 e63 es ez,?_⟩;have E:((m.take (at'+1+c)).drop (at'+1)).length=c:=aB;refine⟨?_,fR,h3.snoc Y Y,fR,h5,h6⟩;simp only[Eo,sq,E];omega
 by_cases apy:c<192
 ·right;rw[YU e1 hc e63 apy];exact⟨.inr (.inr (.inl I)),ar⟩
 by_cases ep:m.length<=at'+1
 ·right;rw[Lb e1 hc apy ep];exact⟨.inl I,ar⟩
 by_cases eb:bound<=c*256+(m.getD (at'+1) 0).toNat-49152
 ·right;rw[Vd e1 hc apy ep I eb];exact⟨.inr (.inr (.inr I)),ar⟩
 left;refine⟨_,Ti e1 hc apy ep I eb,U,F,h3,fR,fR,?_⟩;intro b Z;cases behind with
 |none=>simp at Z;omega
 |some b'=>simp at Z;subst Z;exact h6 _ I
theorem Zb{s:GS}{o:GO}(h:zY m s o):aez m s->afC m o:=by
 induction h with
 |err e=>exact pO
 |ok e=>exact pO
 |go e _ ih=>
  intro hi;rcases Lm hi with⟨s',h,hi'⟩|⟨_,h⟩
  ·rw[e]at h;injection h with h;subst h;exact ih hi'
  ·exact absurd e (h _)
def afD(m:List UInt8):GO->Prop
 | .ok l n=>wJ l/\1+sq l<=255/\n<=m.length
 | .err e=>e=1\/e=3\/e=4\/e=7\/e=9
 | .go _=>False
theorem Zc(m:List UInt8)(rU:Int):afD m (Ca m rU):=by
 unfold Ca;cases h:Ny m rU with
 |true=>rw[if_pos I];exact .inr (.inr (.inl I))
 |false=>
  rw[if_neg ar];have Z:0<=rU/\rU<=m.length:=mi;have:=Zb (Ib m rU.toNat) ⟨I,ar,by intro x hx;simp at hx,fR,fR,ar⟩;cases ho:Tj m rU.toNat with
  |ok l n=>rw[ho]at this;exact this
  |err e=>rw[ho]at this;rcases this with h|h|h|h<;>simp[afD,h]
  |go s=>rw[ho]at this;exact this
theorem acf{b p:Nat}{e:Nat}(h:Rd m b p n e):∀(size:Nat) (acc:List (List UInt8)) (beh:Option Nat),size+sq n<=255->zY m ⟨p,size,b,beh,acc⟩ (.ok (acc++n) (beh.getD e)):=by
 induction h with
 |nil U F=>intro size acc beh _;rw[List.append_nil];exact .ok (Nx Y F.symm)
 | @cons b p l n e U F h3 h4 h5 h6 _ ih=>intro size acc beh hs;simp only[sq]at hs;refine .go (Th Y F.symm Y h4 Y Y) ?_;rw[h6];have:=ih (size+(l.length+1)) (acc++[l]) beh Y;simpa using this
 | @ptr b p q n e U F h3 h4 _ ih=>intro size acc beh hs;have hp:=Ti (m:=m) (at':=p) (size:=size) (bound:=b) (behind:=beh) (acc:=acc) Y I Y Y I Y;rw[h3]at hp;refine .go hp ?_;have:=ih size acc (some (beh.getD (p+2))) hs;simpa using this
theorem acg{p:Nat}{e:Nat}(h:Rd m p p n e)(hp:p<=m.length)(hs:1+sq n<=255):Ca m p= .ok n e:=by
 have U:=acf h 1 [] none hs;unfold Ca;have ho:Ny m p=false:=by simp[Ny];omega
 rw[ho,if_neg ar,Int.toNat_natCast];exact YW (Ib m p) U
open Go.RowKit Go.Maps
def xn(n:List (List UInt8)):List UInt8:=if rR n=0 then PV n else[]
theorem IM(A:Option Addr)(c:Nat)(n:List (List UInt8))(rU:Int)(w:World)(hA:wA w A c n):
  Calls prog 155 #[.pointer none,.slice A n.length c,.int .i64 rU] w (rW (.tuple #[.string (bs (xn n)),.int .i64 (rR n)]) w):=by
 obtain⟨U,F,h3,h4⟩:=hA;by_cases hc:rR n=0
 ·unfold xn;rw[if_pos hc];have:=acb A c n rU w U Y hc;rwa[hc]
 ·unfold xn;rw[if_neg hc];exact(Vh none A c n rU w U Y hc).mono fun _ _ h=>h.toB
def Tm(g b:Nat)(T:List (List (List UInt8)×Nat))(n:List (List UInt8))(rU:Int)(w:World)(e:Ending)(w':World):Prop:=
 e= .returned (.tuple #[.string (bs (Kv T rU n)),.int .i64 (rR n)])/\yS w' g b (NF T rU n)/\w.grownBy w' (some b)
theorem Tn(g b:Nat)(T:List (List (List UInt8)×Nat))(A:Option Addr)(c:Nat)(n:List (List UInt8))(rU:Int)(w:World)(hT:yS w g b T)(hA:wA w A c n)(hTl:T.length<=900000):
  Calls prog 155 #[.pointer (some ⟨g,0,none⟩),.slice A n.length c,.int .i64 rU] w (Tm g b T n rU w):=by
 obtain⟨U,F,h3,h4⟩:=hA;by_cases hc:rR n=0
 ·refine(ace g b T A c n rU w hT U Y hc Y).mono ?_;rintro e w' ⟨rfl,h5,h6⟩;unfold Tm Kv NF;rw[if_pos hc,if_pos hc,hc];exact⟨I,h5,h6⟩
 ·refine(Vh (some ⟨g,0,none⟩) A c n rU w U Y hc).mono ?_;rintro e w' ⟨rfl,rfl⟩;unfold Tm Kv NF;rw[if_neg hc,if_neg hc];exact⟨I,hT,World.grownBy.refl _ _⟩
theorem PW(T:List (List (List UInt8)×Nat))(rU:Int)(n:List (List UInt8)):(NF T rU n).length<=T.length+254:=by
 unfold NF;by_cases hc:rR n=0
 ·
  rw[if_pos hc,List.length_append];have hn:n.length<=254:=by have:=(ud hc).2;have:=yV n;omega
  have:∀(n:List (List UInt8)) (pre:List UInt8),(DH T rU pre n).2.length<=n.length:=by
   intro n;induction n with
   |nil=>intro pre;simp[DH]
   |cons l n ih=>
    intro pre;cases O:look T (l::n)with
    |some q=>rw[Es O];simp
    |none=>rw[Iz O];have:=ih (pre++xE l);simp only[List.length_append,List.length_cons];split<;>simp<;>omega
  have:=this n [];omega
 ·rw[if_neg hc];omega
def Cb(w:World)(A:Option Addr)(ls:List (List (List UInt8))):Prop:=0<ls.length->∃b off,A=some ⟨b,off,none⟩/\b<w.heap.size/\∀i (hi:i<ls.length),∃Ai ci,w.cell? ⟨b,off+i,none⟩=some (.slice Ai ls[i].length ci)/\wA w Ai ci ls[i]
theorem Zd(A:Option Addr)(c:Nat)(n:List (List UInt8))(w:World)(hA:wA w A c n):Calls prog 7 #[.slice A n.length c] w (uQ (.bool (decide (sq n<=400))) w):=
 U7 A c n w hA.1 (by have:=hA.2.2.1;omega) (fun l E=>by have:=hA.2.2.2 l E;omega)
def ED(w:World)(A:Option Addr)(l:List Int):Prop:=0<l.length->∃b off,A=some ⟨b,off,none⟩/\b<w.heap.size/\∀i (hi:i<l.length),w.cell? ⟨b,off+i,none⟩=some (.int .i64 l[i])
theorem afB.of{lo:Nat}{w0:World}(h:zN w0 A n)(Z:ao w0 w)(rH:w0.heap.size<=lo):afB lo w (.slice A n.length c) n:=by
 refine⟨A,c,I,fun hp=>?_⟩;obtain⟨b,off,hA,aA,hc⟩:=h hp;exact⟨b,off,hA,Y,fun i hi=>(Z.cell aA).trans (hc i hi)⟩
end Go.Proofs.YtakkipnmpmobbaaGreat
