/-
  What the reading of an argument says of its cells,kind by kind;and the frame of a law's last step.
-/
import Derived.ProofKit
import Derived.OpenShut
import Derived.ShutString
import Derived.ChangeOld
import Derived.SizedLaws
import Derived.Test.YthnbcmlnpdabhaaGreatGGq
import Derived.Test.YthnbcmlnpdabhaaGreatGEq
namespace Go.Proofs.YthnbcmlnpdabhaaGreat
open _root_.Go.Proofs.Tryz
set_option maxHeartbeats 8000000
open Go.ChangeShapes Go.WideShapes Go.ChangeAt Go.RowKit
open Go.ChangeMaps (open_string shut_string)
variable {v:Value} {n:List (List UInt8)} {e t:TypeId} {w:World} {A:Option Addr} {c size bound:Nat}
def Seen{H:Type}(enc:TypeId×Value->H)(P:Program)(w:World)(t:TypeId)(cs:List Value):Prop:=
 ∃afd x,DataW.trod enc P w 0 (fun _=>true) true afd t cs=some x
section
variable {H:Type} {enc:TypeId×Value->H} {P:Program} {w:World} {t:TypeId} {cs:List Value}
theorem Seen.of{d:DataW H}{p:List MemPlace}(h:DataW.Trod enc P w 0 (fun _=>true) true t v d p):Seen enc P w t v.cells.toList:=by
 obtain⟨afd,hf⟩:=h;exact⟨afd,_,hf⟩
theorem Seen.bool(h:Seen enc P w t cs)(ht:P.underlying t=some .bool):∃b,cs=[.bool b]:=by
 obtain⟨afd,x,hf⟩:=h;obtain⟨b,Z,_⟩:=DataW.trod_bool ht hf;exact⟨b,Z⟩
theorem Seen.int{k:IntKind}(h:Seen enc P w t cs)(ht:P.underlying t=some (.int k)):∃n,cs=[.int k n]/\(Lit.int k n).wf=true:=by
 obtain⟨afd,x,hf⟩:=h;obtain⟨n,hn,_,hw⟩:=DataW.trod_int ht hf;exact⟨n,hn,hw⟩
theorem Seen.array{n:Nat}(h:Seen enc P w t cs)(ht:P.underlying t=some (.array n e)):
  cs.length=P.cellsOf t/\∀i,i<n->Seen enc P w e ((cs.drop (i*P.cellsOf e)).take (P.cellsOf e)):=by
 obtain⟨afd,x,hf⟩:=h;obtain⟨xs,m,_,_,hl,hx,hi⟩:=DataW.trod_array ht hf;refine⟨hl,fun i hin=>?_⟩;have aB:i<xs.length:=I;exact⟨m,xs[i],by rw[hi i hin,List.getElem?_eq_getElem aB]⟩
theorem Pz{a:Addr}(h:w.cell? a=some v):a.block<w.heap.size:=by
 rcases Nat.lt_or_ge a.block w.heap.size with aB|hge
 ·exact aB
 ·simp[World.cell?,Array.getElem?_eq_none hge]at h
theorem Seen.slice(h:Seen enc P w t cs)(ht:P.underlying t=some (.slice e))(hsz:0<P.cellsOf e):
  ∃A n c,cs=[.slice A n c]/\n<=c/\c<=maxLen/\(0<n->∃b off,A=some ⟨b,off,none⟩/\b<w.heap.size/\
   ∀i,i<n->∃cs',cs'.length=P.cellsOf e/\(∀j,j<P.cellsOf e->w.cell? ⟨b,off+i*P.cellsOf e+j,none⟩=cs'[j]?)/\Seen enc P w e cs'):=by
 obtain⟨afd,x,hf⟩:=h;rcases Deep.open_slice ht hf with⟨rfl,_⟩|⟨a,len,cap,m,n,D,Pl,rfl,_,hl,hm,hmm,_,hi⟩
 ·exact⟨none,0,0,J,Nat.le_refl _,Nat.zero_le _,fun h=>absurd h I⟩
 ·
  refine⟨some a,len,cap,J,hl,hm,fun ahl=>?_⟩;have hmc:m=cap:=by simpa using hmm
  obtain⟨cs0,hc0,_⟩:=hi 0 I;obtain⟨_,asQ,ahL⟩:=World.cells?_some hc0;have h00:=ahL 0 hsz;rw[List.getElem?_eq_getElem I]at h00;have aju:a.spot=none:=by simpa[Addr.add]using World.cell?_spot h00
  have apL:a.block<w.heap.size:=mQ;obtain⟨b,off,spot⟩:=a;simp only at aju;subst aju;refine⟨b,off,J,apL,fun i hi'=>?_⟩;obtain⟨cs',hc',ht'⟩:=hi i I;obtain⟨_,aio,aka⟩:=World.cells?_some hc';refine⟨cs',aio,fun j hj=>?_,n,_,ht'⟩;have:=aka j hj;rw[Deep.add_add]at this;rw[<-this];congr 1;unfold Addr.add;split
  ·rename_i h0;have h0':i*P.cellsOf e=0/\j=0:=I;exact uf
  ·simp[Nat.add_assoc]
end
theorem afD{α:Type}{l:List α}(h:l.length=1):∃x0,l=[x0]:=by
 match l,h with
 |[x0],_=>exact⟨x0,J⟩
theorem own:ownKnob prog.godebug=none:=by kernel_rfl
theorem laidOut:laidOutB prog=true:=by kernel_rfl
set_option linter.unusedVariables false
def JN{H:Type}(P:Program)(t:TypeId)(d:DataW H):Prop:=∀k∈d.weights P t,k<=reachBytes
theorem BP{H:Type}{P:Program}:∀(ts:List TypeId) (ds:List (DataW H)) (i:Nat) (t:TypeId) (d:DataW H),ts[i]?=some t->ds[i]?=some d->∀k∈d.weights P t,k∈DataW.weightsEach P ts ds
 |t'::ts,d'::ds,0,t,d,ht,hd,k,z=>by
  simp at ht hd;subst ht hd;simp[DataW.weightsEach];exact .inl z
 |t'::ts,d'::ds,i+1,t,d,ht,hd,k,z=>by
  simp at ht hd;simp[DataW.weightsEach];exact .inr (BP ts ds i t d ht hd k z)
 |[],_,i,t,d,ht,hd,k,z=>by simp at ht
 |_::_,[],i,t,d,ht,hd,k,z=>by simp at hd
theorem Cz{H:Type}{P:Program}{e:TypeId}:∀(ds:List (DataW H)) (d:DataW H),d∈ds->∀k∈d.weights P e,k∈DataW.weightsAll P e ds
 |d'::ds,d,hd,k,z=>by
  simp only[DataW.weightsAll,List.mem_append];rcases List.mem_cons.1 hd with rfl|h
  ·exact .inl z
  ·exact .inr (Cz ds d h k z)
theorem Hi{H:Type}{P:Program}{ts:List TypeId}{ds:List (DataW H)}(h:(DataW.weightsEach P ts ds).all (· <=reachBytes)=true){i:Nat}{d:DataW H}(ht:ts[i]?=some t)(hd:ds[i]?=some d):JN P t d:=by
 intro k z;have:=List.all_eq_true.1 h k (BP ts ds i t d ht hd k z);simpa using this
def vH{H:Type}(enc:TypeId×Value->H)(P:Program)(w:World)(t:TypeId)(cs:List Value):Prop:=
 ∃afd x,DataW.trod enc P w 0 (fun _=>true) true afd t cs=some x/\JN P t x.1
section
variable {H:Type} {enc:TypeId×Value->H} {P:Program} {w:World} {t:TypeId} {cs:List Value}
theorem vH.of{d:DataW H}{p:List MemPlace}(h:DataW.Trod enc P w 0 (fun _=>true) true t v d p)(hl:JN P t d):vH enc P w t v.cells.toList:=by
 obtain⟨afd,hf⟩:=h;exact⟨afd,_,hf,hl⟩
theorem vH.Zn(h:vH enc P w t cs):Seen enc P w t cs:=by
 obtain⟨afd,x,hf,_⟩:=h;exact⟨afd,x,hf⟩
theorem vH.bool(h:vH enc P w t cs)(ht:P.underlying t=some .bool):∃b,cs=[.bool b]:=h.Zn.bool ht
theorem vH.int{k:IntKind}(h:vH enc P w t cs)(ht:P.underlying t=some (.int k)):∃n,cs=[.int k n]/\(Lit.int k n).wf=true:=h.Zn.int ht
theorem vH.string(h:vH enc P w t cs)(ht:P.underlying t=some .string):∃l:List UInt8,cs=[.string (bs l)]/\l.length<=140737488355328:=by
 obtain⟨afd,x,hf,hl⟩:=h;obtain⟨s,hs,hx,hm⟩:=DataW.trod_string ht hf;refine⟨s.data.toList,by rw[hs,<-aeL],?_⟩;have:=hl s.data.toList.length (by rw[hx];simp[DataW.weights]);unfold reachBytes at this;omega
theorem vH.struct{fs:Array Field}(h:vH enc P w t cs)(ht:P.underlying t=some (.struct fs)):
  cs.length=P.cellsOf t/\∀(i:Nat) (f:Field),fs[i]?=some f->vH enc P w f.type ((cs.drop f.offset).take (P.cellsOf f.type)):=by
 obtain⟨afd,x,hf,aB⟩:=h;obtain⟨xs,n,_,hxx,hl,hx,hi⟩:=DataW.trod_struct ht hf;refine⟨hl,fun i f hif=>?_⟩;have h1:i<xs.length:=by rw[hx];exact(Array.getElem?_eq_some_iff.1 hif).1
 refine⟨n,xs[i],by rw[hi i f hif,List.getElem?_eq_getElem h1],?_⟩;intro k z;refine aB k ?_;rw[hxx];simp only[DataW.weights,ht];refine BP _ _ i f.type xs[i].1 ?_ ?_ k z
 ·simp[hif]
 ·simp[List.getElem?_eq_getElem h1]
theorem vH.array{n:Nat}(h:vH enc P w t cs)(ht:P.underlying t=some (.array n e)):
  cs.length=P.cellsOf t/\∀i,i<n->vH enc P w e ((cs.drop (i*P.cellsOf e)).take (P.cellsOf e)):=by
 obtain⟨afd,x,hf,aB⟩:=h;obtain⟨xs,m,_,hxx,hl,hx,hi⟩:=DataW.trod_array ht hf;refine⟨hl,fun i hin=>?_⟩;have h1:i<xs.length:=I;refine⟨m,xs[i],by rw[hi i hin,List.getElem?_eq_getElem h1],?_⟩;intro k z;refine aB k ?_;rw[hxx];simp only[DataW.weights,ht];refine Cz _ xs[i].1 ?_ k z;exact List.mem_map.2 ⟨xs[i],List.getElem_mem h1,J⟩
theorem vH.slice(h:vH enc P w t cs)(ht:P.underlying t=some (.slice e))(hsz:0<P.cellsOf e):
  ∃A n c,cs=[.slice A n c]/\n<=c/\c<=maxLen/\n*P.bytesOf e<=140737488355328/\(0<n->∃b off,A=some ⟨b,off,none⟩/\b<w.heap.size/\
   ∀i,i<n->∃cs',cs'.length=P.cellsOf e/\(∀j,j<P.cellsOf e->w.cell? ⟨b,off+i*P.cellsOf e+j,none⟩=cs'[j]?)/\vH enc P w e cs'):=by
 obtain⟨afd,x,hf,aB⟩:=h;rcases Deep.open_slice ht hf with⟨rfl,_⟩|⟨a,len,cap,m,n,D,Pl,rfl,_,hl,hm,hmm,hxx,hi⟩
 ·exact⟨none,0,0,J,Nat.le_refl _,Nat.zero_le _,ap,fun h=>absurd h I⟩
 ·
  have hmc:m=cap:=by simpa using hmm
  refine⟨some a,len,cap,J,hl,hm,?_,fun ahl=>?_⟩
  ·have:=aB ((len+(m-len))*P.bytesOf e) (by rw[hxx];simp[DataW.weights,ht]);unfold reachBytes at this;have X:len*P.bytesOf e<=(len+(m-len))*P.bytesOf e:=Nat.mul_le_mul_right _ I;omega
  obtain⟨cs0,hc0,_⟩:=hi 0 I;obtain⟨_,asQ,ahL⟩:=World.cells?_some hc0;have h00:=ahL 0 hsz;rw[List.getElem?_eq_getElem I]at h00;have aju:a.spot=none:=by simpa[Addr.add]using World.cell?_spot h00
  have apL:a.block<w.heap.size:=mQ;obtain⟨b,off,spot⟩:=a;simp only at aju;subst aju;refine⟨b,off,J,apL,fun i hi'=>?_⟩;obtain⟨cs',hc',ht'⟩:=hi i I;obtain⟨_,aio,aka⟩:=World.cells?_some hc';refine⟨cs',aio,fun j hj=>?_,n,_,ht',?_⟩
  ·
   have:=aka j hj;rw[Deep.add_add]at this;rw[<-this];congr 1;unfold Addr.add;split
   ·rename_i h0;exact uf
   ·simp[Nat.add_assoc]
  ·intro k z;refine aB k ?_;rw[hxx];simp only[DataW.weights,ht,List.mem_cons,List.mem_append];right;left;exact Cz _ (D i) (List.mem_map.2 ⟨i,List.mem_range.2 hi',J⟩) k z
end
def xE(w:World)(A:Option Addr)(c:Nat)(n:List (List UInt8)):Prop:=AO w A n/\n.length<=c/\n.length<=17592186044416/\∀l∈n,l.length<=140737488355328
theorem xE.G{w':World}(h:xE w A c n)(Z:al w w'):xE w' A c n:=⟨h.1.G Z,h.2⟩
theorem Lo{H:Type}{enc:TypeId×Value->H}{cs:List Value}(ht:prog.underlying t=some (.slice 9))(h:vH enc prog w t cs):∃A c l,cs=[.slice A (l:List (List UInt8)).length c]/\xE w A c l:=by
 have c9:prog.cellsOf 9=1:=by kernel_rfl
 have b9:prog.bytesOf 9=16:=by kernel_rfl
 obtain⟨A,n,c,rfl,hnc,_,hby,hn⟩:=h.slice ht (by rw[c9];omega);rw[b9]at hby;by_cases ahl:0<n
 ·
  obtain⟨b,off,rfl,Z,hi⟩:=hn ahl;rw[c9]at hi;have key:∀i,i<n->∃t:List UInt8,w.cell? ⟨b,off+i,none⟩=some (.string (bs t))/\t.length<=140737488355328:=by intro i hin;obtain⟨cs',hl,hc,hs⟩:=hi i hin;obtain⟨x,rfl⟩:=afD hl;obtain⟨s,e,hsl⟩:=hs.string underlying9;simp at e;subst e;refine⟨s,?_,hsl⟩;have:=hc 0 I;rwa[Nat.mul_one,Nat.add_zero]at this
  obtain⟨f,hf⟩:=Deep.choose_lt key;refine⟨some ⟨b,off,none⟩,c,(List.range n).map f,ap,fun _=>⟨b,off,J,Z,fun i hin=>?_⟩,by simpa using hnc,aA,?_⟩
  ·have alX:i<n:=nb;rw[(hf i alX).1];simp
  ·intro l hl;obtain⟨i,hir,rfl⟩:=List.mem_map.1 hl;exact(hf i (List.mem_range.1 hir)).2
 ·obtain rfl:n=0:=I;exact⟨A,c,[],J,fun h=>absurd h ap,ap,ap,ap⟩
open Go.RowKit
set_option maxRecDepth 100000
def DK(s:GS):Nat:=(255-s.size)+min s.bound 16384
theorem Xk{at' a2:Nat}{behind:Option Nat}{acc acc2:List (List UInt8)}(hz:¬255<size+(c+1)):DK ⟨a2,size+(c+1),bound,behind,acc2⟩<DK ⟨at',size,bound,behind,acc⟩:=by simp only[DK];omega
theorem Xl{at' q:Nat}{behind b2:Option Nat}{acc:List (List UInt8)}(hq:q<bound)(h:q<16384):DK ⟨q,size,q,b2,acc⟩<DK ⟨at',size,bound,behind,acc⟩:=by simp only[DK];omega
theorem afE(m:List UInt8)(p:Nat)(h:¬m.length<=p+1):vw ((m.take (p+2)).drop p)=(m.getD p 0).toNat*256+(m.getD (p+1) 0).toNat:=by
 have e:(m.take (p+2)).drop p=[m.getD p 0,m.getD (p+1) 0]:=by
  rw[List.drop_take,show p+2-p=2 by omega];have U:m.drop p=m.getD p 0::m.drop (p+1):=by rw[List.drop_eq_getElem_cons I];simp[List.getD,List.getElem?_eq_getElem (show p<m.length by omega)]
  have X:m.drop (p+1)=m.getD (p+1) 0::m.drop (p+2):=by rw[List.drop_eq_getElem_cons I];simp[List.getD,List.getElem?_eq_getElem (show p+1<m.length by omega)]
  rw[U,X];rfl
 rw[e];simp[vw];omega
def adM(m:List UInt8)(w:World)(o:GO)(k:Nat)(uG n size from_ end_ step:Value)(wr:World):Prop:=
 ∃(s:GS) (st:Nat),DK s<=k/\Dg m s o/\s.at'<=m.length/\s.bound<=m.length/\s.size<=255/\s.acc.length<=s.size/\(∀b,s.behind=some b->b<=m.length)/\st+DK s<=60000/\
  uG= .int .i64 s.at'/\size= .int .i64 s.size/\from_= .int .i64 s.bound/\end_= .int .i64 (Pu s.behind)/\step= .int .i64 st/\
  wO wr n s.acc/\al w wr/\(∀k,n.ownBlock=some k->w.heap.size<=k)
theorem UE(m:List UInt8)(uG:Int)(w:World)(h:Kk m uG=true):
  Calls prog 181 #[.string (bs m),.int .i64 uG] w (Dw (.err 4) w):=by
 have Z:uG<0\/(0<=uG/\(m.length:Int)<uG):=by simp[Kk]at h;omega
 clear h;rcases Z with h|⟨h0,h⟩;all_goals
  go_enter func181,ntmps181;go_wp2_with fail;go_ret3;exact⟨_,J,wO.nil _,Below.refl _ _,by simp[Value.ownBlock]⟩
theorem Xm(m:List UInt8)(a:Nat)(w:World)(hl:m.length<=4000000)(ha:a<=m.length)(o:GO)(ho:Dg m ⟨a,1,a,none,[]⟩ o):
  Calls prog 181 #[.string (bs m),.int .i64 a] w (Dw o w):=by
 have d1:decide ((a:Int)<0)=false:=iz;have d2:decide (m.length<a)=false:=iz;go_enter func181,ntmps181;go_wp2_with fail;go_loopg [1,7,8,9,10,11] (DK ⟨a,1,a,none,[]⟩) (fun k uG n size from_ end_ step wr=>adM m w o k uG n size from_ end_ step wr)
 case atStart=>exact⟨⟨a,1,a,none,[]⟩,0,Nat.le_refl _,ho,ha,ha,ap,ap,ap,by simp[DK];omega,J,J,J,J,J,wO.nil _,Below.refl _ _,by simp[Value.ownBlock]⟩
 case round=>
  clear ho;obtain⟨⟨at',size,bound,behind,acc⟩,st,z,hG,hat,hbd,hsz,akd,hbh,hst,rfl,rfl,rfl,rfl,rfl,hT,hB,hob⟩:=hrel;simp only at z hG hat hbd hsz akd hbh hT hst;have axD:(st:Int)<70000:=I;go_upto_if 30 with fail;clear axD;have aFZ:st<=m.length+60000:=I;have HG:=Y hG;have HOB:=Y hob;have HBH:=Y hbh;have HK:=Y z;have HST:=Y hst;clear hG hob hbh z hst;by_cases U:m.length<=at'
  ·have e1:o= .err 1:=oF;subst e1;have h1':(m.length:Int)<=at':=I;exact pQ
  ·
   have h1':(at':Int)<m.length:=I;have aB:at'<m.length:=I;obtain⟨c,hc⟩:∃c,c=(m.getD at' 0).toNat:=gG;have atf:c<256:=ni;have alY:=Pr m at' c aB hc;have HC:=Y hc;clear hc;by_cases h0:c=0
   ·
    subst h0;cases behind with
    |none=>have e1:o= .ok acc (at'+1):=jn;exact tp
    |some b=>have e1:o= .ok acc b:=jn;exact tp
   ·
    have h0':((c:Int)==0)=false:=aA;by_cases ahz:c<192
    ·
     have amj:(c:Int)<192:=I;by_cases h63:c<=63
     ·
      have ap6:(c:Int)<64:=I;by_cases hs:m.length<at'+1+c
      ·have e1:o= .err 1:=mT;subst e1;have hs':(m.length:Int)<(at':Int)+1+c:=I;clear h0;exact pQ
      ·
       have hs':(at':Int)+1+c<=m.length:=I;by_cases hz:255<size+(c+1)
       ·have e1:o= .err 3:=mH;subst e1;have hz':(255:Int)<(size:Int)+c+1:=I;clear h0;exact pQ
       ·
        have hz':(size:Int)+c+1<=255:=I;have G2:=KC HG.out (Pw U HC.out h0 h63 hs hz);have HG2:=Y G2;have HM:=Y (Xk (at':=at') (a2:=at'+1+c) (bound:=bound) (behind:=behind) (acc:=acc) (acc2:=acc++[(m.take (at'+1+c)).drop (at'+1)]) hz);clear h0 G2 U;go_wp2_with(at_builtin;go_must(refine Hf _ J (.tmp 81) (.tmp 90) 25 J 9 (.string ⟨#[]⟩) 1 16 underlying25 Ei J az _ acc.length _ J (World.ownsRow.alloc hT _) ⟨wr.heap.size,0,none⟩ 1 1 [.string (bs ((m.take (at'+1+c)).drop (at'+1)))] J J (Cg _ _ _ _ J) (zO J) az aK I ?_));intro g cap w1 agO agJ atl;have hB1:al w w1:=(hB.alloc hB.size _).grown agJ aT (fun k z=>HOB.out k z);have hT1:wO w1 (.slice (some ⟨g,0,none⟩) (acc.length+1) cap) (acc++[(m.take (at'+1+c)).drop (at'+1)]):=by unfold wO;simpa using agO
        have asG:∀k,(Value.slice (some ⟨g,0,none⟩) (acc.length+1) cap).ownBlock=some k->w.heap.size<=k:=by
         intro k z;have hkg:g=k:=iN;subst hkg;rcases atl with e|e
         ·exact HOB.out _ e
         ·have:=hB.size;omega
        have aAh:=Y asG;clear agO agJ atl asG HOB hT;go_wp2_with fail;go_roundg (DK ⟨at'+1+c,size+(c+1),bound,behind,acc++[(m.take (at'+1+c)).drop (at'+1)]⟩)
        case measure=>exact Nat.lt_of_lt_of_le HM.out HK.out
        case rel=>exact⟨_,st+1,Nat.le_refl _,HG2.out,gu,hbd,gu,aA,HBH.out,by have U:=HM.out;have X:=HST.out;omega,gp,gp,J,J,gp,hT1,hB1,aAh.out⟩
     ·have ap6:(64:Int)<=c:=I;have e1:o= .err 7:=nB;subst e1;clear h0;exact pQ
    ·
     have amj:(192:Int)<=c:=I;by_cases hps:m.length<=at'+1
     ·have axI:(m.length:Int)<=(at':Int)+1:=I;have e1:o= .err 1:=mU;subst e1;clear h0;exact pQ
     ·
      have axI:(at':Int)+1<m.length:=I;have N2:=afE m at' hps;obtain⟨d,hd⟩:∃d,d=(m.getD (at'+1) 0).toNat:=gG;have ata:d<256:=nh;have HD:=Y hd;rw[<-HC.out,<-hd]at N2;have HN:=Y N2;have hl2:((m.take (at'+2)).drop at').length<=4:=aA;have HL2:=Y hl2;clear hd h0 N2 hl2;go_wp2_with fail;refine(yw _ _ HL2.out).mono ?_;rw[HN.out];rintro e w1 ⟨rfl,rfl⟩;have aon:((c*256+d:Nat):Int)=(c:Int)*256+d:=I;rw[aon];clear aon HN HL2;by_cases hpb:bound<=c*256+d-49152
      ·have e1:o= .err 9:=lV;subst e1;have apl:(bound:Int)<=(c:Int)*256+d-49152:=I;clear hpb;exact pQ
      ·
       have G2:=KC HG.out (Px U HC.out ahz hps HD.out hpb);have HG2:=Y G2;have apl:(c:Int)*256+d-49152<bound:=I;obtain⟨q,hq⟩:∃q,q=c*256+d-49152:=gG;rw[<-hq]at HG2;have hqi:(c:Int)*256+d-49152=q:=I;have HQ:=Y hqi;have hqb:q<bound:=I;have asE:q<16384:=I;have HM:=Y (Xl (at':=at') (size:=size) (behind:=behind) (b2:=some (behind.getD (at'+2))) (acc:=acc) hqb asE);have apj:at'+2<=m.length:=I;clear hq hqi hpb U hps G2;cases behind with
       |none=>
        unfold Pu;go_wp2_with fail;go_roundg (DK ⟨q,size,q,some (at'+2),acc⟩)
        case measure=>exact Nat.lt_of_lt_of_le HM.out HK.out
        case rel=>exact⟨_,st+1,Nat.le_refl _,HG2.out,gu,gu,hsz,akd,(fun b Z=>by injection Z with Z;subst Z;exact apj),(by have U:=HM.out;have X:=HST.out;simp only[Option.getD_none]at U⊢;omega),by rw[HQ.out],J,by rw[HQ.out],congrArg (Value.int .i64) (show(at':Int)+2=((at'+2:Nat):Int)by omega),gp,hT,hB,HOB.out⟩
       |some b=>
        unfold Pu;go_wp2_with fail;go_roundg (DK ⟨q,size,q,some b,acc⟩)
        case measure=>exact Nat.lt_of_lt_of_le HM.out HK.out
        case rel=>exact⟨_,st+1,Nat.le_refl _,HG2.out,gu,gu,hsz,akd,fun b' hb'=>HBH.out b' hb',(by have U:=HM.out;have X:=HST.out;simp only[Option.getD_some]at U⊢;omega),by rw[HQ.out],J,by rw[HQ.out],J,gp,hT,hB,HOB.out⟩
theorem Lp(m:List UInt8)(uG:Int)(w:World)(hl:m.length<=4000000):
  Calls prog 181 #[.string (bs m),.int .i64 uG] w (Dw (Ch m uG) w):=by
 unfold Ch;cases h:Kk m uG with
 |true=>rw[if_pos J];exact UE m uG w h
 |false=>rw[if_neg ap];have Z:0<=uG/\uG<=m.length:=lE;have:=Xm m uG.toNat w hl I _ (Im m uG.toNat);rwa[Int.toNat_of_nonneg Z.1]at this
def adN(m:List UInt8)(s:GS):Prop:=1+vB s.acc=s.size/\s.size<=255/\yR s.acc/\s.at'<=m.length/\s.bound<=m.length/\∀b,s.behind=some b->b<=m.length
def aeU(m:List UInt8):GO->Prop
 | .ok l n=>yR l/\1+vB l<=255/\n<=m.length
 | .err e=>e=1\/e=3\/e=7\/e=9
 | .go _=>False
theorem yR.snoc{a:List (List UInt8)}{l:List UInt8}(h:yR a)(U:1<=l.length)(X:l.length<=63):yR (a++[l]):=by
 intro x hx;rcases List.mem_append.1 hx with hx|hx
 ·exact h x hx
 ·rw[List.mem_singleton]at hx;subst hx;exact⟨U,X⟩
theorem NZ{m:List UInt8}{s:GS}(hi:adN m s):(∃s',xB m s= .go s'/\adN m s')\/(aeU m (xB m s)/\∀s',xB m s≠ .go s'):=by
 obtain⟨at',size,bound,behind,acc⟩:=s;obtain⟨U,X,h3,h4,h5,h6⟩:=hi;simp only at U X h3 h4 h5 h6;obtain⟨c,hc⟩:∃c,c=(m.getD at' 0).toNat:=gG;by_cases e1:m.length<=at'
 ·
  right;have:xB m ⟨at',size,bound,behind,acc⟩= .err 1:=by simp[xB,e1]
  rw[this];exact⟨.inl J,ap⟩
 by_cases e0:c=0
 ·
  right;rw[Pv e1 (by rw[<-hc,e0])];refine⟨⟨h3,I,?_⟩,ap⟩;cases behind with
  |none=>simp;omega
  |some b=>simpa using h6 b J
 by_cases e63:c<=63
 ·
  by_cases es:m.length<at'+1+c
  ·right;rw[Rv e1 hc e0 e63 es];exact⟨.inl J,ap⟩
  by_cases ez:255<size+(c+1)
  ·right;rw[VV e1 hc e0 e63 es ez];exact⟨.inr (.inl J),ap⟩
  left;refine⟨_,Pw e1 hc e0 e63 es ez,?_⟩;have hl:((m.take (at'+1+c)).drop (at'+1)).length=c:=aA;refine⟨?_,gu,h3.snoc I I,gu,h5,h6⟩;simp only[KU,vB,hl];omega
 by_cases anB:c<192
 ·right;rw[Zb e1 hc e63 anB];exact⟨.inr (.inr (.inl J)),ap⟩
 by_cases ep:m.length<=at'+1
 ·right;rw[NR e1 hc anB ep];exact⟨.inl J,ap⟩
 by_cases eb:bound<=c*256+(m.getD (at'+1) 0).toNat-49152
 ·right;rw[VW e1 hc anB ep J eb];exact⟨.inr (.inr (.inr J)),ap⟩
 left;refine⟨_,Px e1 hc anB ep J eb,U,X,h3,gu,gu,?_⟩;intro b Z;cases behind with
 |none=>simp at Z;omega
 |some b'=>simp at Z;subst Z;exact h6 _ J
theorem Zo{m:List UInt8}{s:GS}{o:GO}(h:Dg m s o):adN m s->aeU m o:=by
 induction h with
 |err e=>exact sK
 |ok e=>exact sK
 |go e _ ih=>
  intro hi;rcases NZ hi with⟨s',h,hi'⟩|⟨_,h⟩
  ·rw[e]at h;injection h with h;subst h;exact ih hi'
  ·exact absurd e (h _)
def aeV(m:List UInt8):GO->Prop
 | .ok l n=>yR l/\1+vB l<=255/\n<=m.length
 | .err e=>e=1\/e=3\/e=4\/e=7\/e=9
 | .go _=>False
theorem Zp(m:List UInt8)(uG:Int):aeV m (Ch m uG):=by
 unfold Ch;cases h:Kk m uG with
 |true=>rw[if_pos J];exact .inr (.inr (.inl J))
 |false=>
  rw[if_neg ap];have Z:0<=uG/\uG<=m.length:=lE;have:=Zo (Im m uG.toNat) ⟨J,ap,by intro x hx;simp at hx,gu,gu,ap⟩;cases ho:Ux m uG.toNat with
  |ok l n=>rw[ho]at this;exact this
  |err e=>rw[ho]at this;rcases this with h|h|h|h<;>simp[aeV,h]
  |go s=>rw[ho]at this;exact this
theorem abP{m:List UInt8}{b p:Nat}{e:Nat}(h:Rd m b p n e):∀(size:Nat) (acc:List (List UInt8)) (beh:Option Nat),size+vB n<=255->Dg m ⟨p,size,b,beh,acc⟩ (.ok (acc++n) (beh.getD e)):=by
 induction h with
 |nil U X=>intro size acc beh _;rw[List.append_nil];exact .ok (Pv I X.symm)
 | @cons b p l n e U X h3 h4 h5 h6 _ ih=>intro size acc beh hs;simp only[vB]at hs;refine .go (Pw I X.symm I h4 I I) ?_;rw[h6];have:=ih (size+(l.length+1)) (acc++[l]) beh I;simpa using this
 | @ptr b p q n e U X h3 h4 _ ih=>intro size acc beh hs;have hp:=Px (m:=m) (at':=p) (size:=size) (bound:=b) (behind:=beh) (acc:=acc) I J I I J I;rw[h3]at hp;refine .go hp ?_;have:=ih size acc (some (beh.getD (p+2))) hs;simpa using this
theorem abQ{m:List UInt8}{p:Nat}{e:Nat}(h:Rd m p p n e)(hp:p<=m.length)(hs:1+vB n<=255):Ch m p= .ok n e:=by
 have U:=abP h 1 [] none hs;unfold Ch;have ho:Kk m p=false:=by simp[Kk];omega
 rw[ho,if_neg ap,Int.toNat_natCast];exact Zd (Im m p) U
open Go.RowKit Go.Maps
def yS(n:List (List UInt8)):List UInt8:=if uE n=0 then Py n else[]
theorem Lq(A:Option Addr)(c:Nat)(n:List (List UInt8))(uG:Int)(w:World)(hA:xE w A c n):
  Calls prog 236 #[.pointer none,.slice A n.length c,.int .i64 uG] w (uI (.tuple #[.string (bs (yS n)),.int .i64 (uE n)]) w):=by
 obtain⟨U,X,h3,h4⟩:=hA;by_cases hc:uE n=0
 ·unfold yS;rw[if_pos hc];have:=abL A c n uG w U I hc;rwa[hc]
 ·unfold yS;rw[if_neg hc];exact(V0 none A c n uG w U I hc).mono fun _ _ h=>h.toB
theorem GX(A:Option Addr)(c:Nat)(n:List (List UInt8))(uG:Int)(w:World)(hA:xE w A c n):
  Calls prog 112 #[.pointer none,.slice A n.length c,.int .i64 uG] w (uI (.tuple #[.string (bs (yS n)),.int .i64 (uE n)]) w):=by
 obtain⟨U,X,h3,h4⟩:=hA;by_cases hc:uE n=0
 ·unfold yS;rw[if_pos hc];have:=UD A c n uG w U X hc;rwa[hc]
 ·unfold yS;rw[if_neg hc];exact(Lm none A c n uG w U I hc).mono fun _ _ h=>h.toB
def UF(g b:Nat)(T:List (List (List UInt8)×Nat))(n:List (List UInt8))(uG:Int)(w:World)(e:Ending)(w':World):Prop:=
 e= .returned (.tuple #[.string (bs (I6 T uG n)),.int .i64 (uE n)])/\Ce w' g b (Kl T uG n)/\w.grownBy w' (some b)
theorem UG(g b:Nat)(T:List (List (List UInt8)×Nat))(A:Option Addr)(c:Nat)(n:List (List UInt8))(uG:Int)(w:World)(hT:Ce w g b T)(hA:xE w A c n)(hTl:T.length<=900000):
  Calls prog 236 #[.pointer (some ⟨g,0,none⟩),.slice A n.length c,.int .i64 uG] w (UF g b T n uG w):=by
 obtain⟨U,X,h3,h4⟩:=hA;by_cases hc:uE n=0
 ·refine(abN g b T A c n uG w hT U I hc I).mono ?_;rintro e w' ⟨rfl,h5,h6⟩;unfold UF I6 Kl;exact tZ
 ·refine(V0 (some ⟨g,0,none⟩) A c n uG w U I hc).mono ?_;rintro e w' ⟨rfl,rfl⟩;unfold UF I6 Kl;rw[if_neg hc,if_neg hc];exact⟨J,hT,World.grownBy.refl _ _⟩
def PA(lo g:Nat)(T:List (List (List UInt8)×Nat))(n:List (List UInt8))(uG:Int)(w:World)(e:Ending)(w':World):Prop:=
 e= .returned (.tuple #[.string (bs (I6 T uG n)),.int .i64 (uE n)])/\GM lo w' g (Kl T uG n)/\vV lo w w'
theorem Nl(lo g:Nat)(T:List (List (List UInt8)×Nat))(A:Option Addr)(c:Nat)(n:List (List UInt8))(uG:Int)(w:World)(hT:GM lo w g T)(uw:lo<=w.heap.size)(hgl:lo<=g)(hL:GL lo w (.slice A n.length c) n)(hA:xE w A c n)(hTl:T.length<=900000):
  Calls prog 112 #[.pointer (some ⟨g,0,none⟩),.slice A n.length c,.int .i64 uG] w (PA lo g T n uG w):=by
 obtain⟨U,X,h3,h4⟩:=hA;by_cases hc:uE n=0
 ·refine(UB lo g T A c n uG w hT uw hgl hL X hc hTl).mono ?_;rintro e w' ⟨rfl,h5,h6⟩;unfold PA I6 Kl;exact tZ
 ·refine(Lm (some ⟨g,0,none⟩) A c n uG w U I hc).mono ?_;rintro e w' ⟨rfl,rfl⟩;unfold PA I6 Kl;rw[if_neg hc,if_neg hc];exact⟨J,hT,vV.refl _ _⟩
theorem RI(T:List (List (List UInt8)×Nat))(uG:Int)(n:List (List UInt8)):(Kl T uG n).length<=T.length+254:=by
 unfold Kl;by_cases hc:uE n=0
 ·
  rw[if_pos hc,List.length_append];have hn:n.length<=254:=by have:=(xj hc).2;have:=z9 n;omega
  have:∀(n:List (List UInt8)) (pre:List UInt8),(FJ T uG pre n).2.length<=n.length:=by
   intro n;induction n with
   |nil=>intro pre;simp[FJ]
   |cons l n ih=>
    intro pre;cases z:look T (l::n)with
    |some q=>rw[Ie z];simp
    |none=>rw[KW z];have:=ih (pre++zX l);simp only[List.length_append,List.length_cons];split<;>simp<;>omega
  have:=this n [];omega
 ·rw[if_neg hc];omega
def Iq(w:World)(A:Option Addr)(ls:List (List (List UInt8))):Prop:=0<ls.length->∃b off,A=some ⟨b,off,none⟩/\b<w.heap.size/\∀i (hi:i<ls.length),∃Ai ci,w.cell? ⟨b,off+i,none⟩=some (.slice Ai ls[i].length ci)/\xE w Ai ci ls[i]
theorem RJ(A:Option Addr)(c:Nat)(n:List (List UInt8))(w:World)(hA:xE w A c n):Calls prog 14 #[.slice A n.length c] w (xX (.bool (decide (vB n<=400))) w):=
 abB A c n w hA.1 bc (fun l hl=>by have:=hA.2.2.2 l hl;omega)
def Ir(w:World)(A:Option Addr)(l:List Int):Prop:=0<l.length->∃b off,A=some ⟨b,off,none⟩/\b<w.heap.size/\∀i (hi:i<l.length),w.cell? ⟨b,off+i,none⟩=some (.int .i64 l[i])
theorem GL.of{lo:Nat}{w0:World}(h:AO w0 A n)(Z:al w0 w)(uw:w0.heap.size<=lo):GL lo w (.slice A n.length c) n:=by
 refine⟨A,c,J,fun hp=>?_⟩;obtain⟨b,off,hA,aB,hc⟩:=h hp;exact⟨b,off,hA,I,fun i hi=>(Z.cell aB).trans (hc i hi)⟩
theorem GM.new(w:World)(k:Nat)(z:k=w.heap.size):GM w.heap.size (w.alloc (.cells #[.slice none 0 0] 208)) k []:=by
 refine⟨[],.slice none 0 0,J,F.wE w _ [.slice none 0 0] k z,World.ownsRow_nil _ _ _ _,fun i hv=>by simp at hv,ap⟩
end Go.Proofs.YthnbcmlnpdabhaaGreat
