/-
  What the reading of an argument says of its cells,kind by kind;and the frame of a law's last step.
-/
import Derived.ProofKit
import Derived.OpenShut
import Derived.ShutString
import Derived.ChangeOld
import Derived.SizedLaws
import Derived.Test.YthnbcmlnpdabhaaGreatGGz
import Derived.Test.YthnbcmlnpdabhaaGreatGEz
namespace Go.Proofs.YthnbcmlnpdabhaaGreat
open _root_.Go.Proofs.Tryz
set_option maxHeartbeats 8000000
open Go.ChangeShapes Go.WideShapes Go.ChangeAt Go.RowKit
open Go.ChangeMaps (open_string shut_string)
variable {v:Value} {n:List (List UInt8)} {e t:TypeId} {w:World} {A:Option Addr} {c size bound:Nat}
def Seen{H:Type}(enc:TypeId×Value->H)(P:Program)(w:World)(t:TypeId)(cs:List Value):Prop:=
 ∃aeH x,DataW.trod enc P w 0 (fun _=>true) true aeH t cs=some x
section
variable {H:Type} {enc:TypeId×Value->H} {P:Program} {w:World} {t:TypeId} {cs:List Value}
theorem Seen.of{d:DataW H}{p:List MemPlace}(h:DataW.Trod enc P w 0 (fun _=>true) true t v d p):Seen enc P w t v.cells.toList:=by
 obtain⟨aeH,hf⟩:=h;exact⟨aeH,_,hf⟩
theorem Seen.bool(h:Seen enc P w t cs)(ht:P.underlying t=some .bool):∃b,cs=[.bool b]:=by
 obtain⟨aeH,x,hf⟩:=h;obtain⟨b,F,_⟩:=DataW.trod_bool ht hf;exact⟨b,F⟩
theorem Seen.int{k:IntKind}(h:Seen enc P w t cs)(ht:P.underlying t=some (.int k)):∃n,cs=[.int k n]/\(Lit.int k n).wf=true:=by
 obtain⟨aeH,x,hf⟩:=h;obtain⟨n,hn,_,hw⟩:=DataW.trod_int ht hf;exact⟨n,hn,hw⟩
theorem Seen.string(h:Seen enc P w t cs)(ht:P.underlying t=some .string):∃s:ByteArray,cs=[.string s]/\s.size<=maxLen:=by
 obtain⟨aeH,x,hf⟩:=h;obtain⟨s,hs,_,hm⟩:=DataW.trod_string ht hf;exact⟨s,hs,hm⟩
theorem Seen.array{n:Nat}(h:Seen enc P w t cs)(ht:P.underlying t=some (.array n e)):
  cs.length=P.cellsOf t/\∀i,i<n->Seen enc P w e ((cs.drop (i*P.cellsOf e)).take (P.cellsOf e)):=by
 obtain⟨aeH,x,hf⟩:=h;obtain⟨xs,m,_,_,hl,hx,hi⟩:=DataW.trod_array ht hf;refine⟨hl,fun i hin=>?_⟩;have Hh:i<xs.length:=I;exact⟨m,xs[i],by rw[hi i hin,List.getElem?_eq_getElem Hh]⟩
theorem OM{a:Addr}(h:w.cell? a=some v):a.block<w.heap.size:=by
 rcases Nat.lt_or_ge a.block w.heap.size with Hh|hge
 ·exact Hh
 ·simp[World.cell?,Array.getElem?_eq_none hge]at h
theorem Seen.slice(h:Seen enc P w t cs)(ht:P.underlying t=some (.slice e))(hsz:0<P.cellsOf e):
  ∃A n c,cs=[.slice A n c]/\n<=c/\c<=maxLen/\(0<n->∃b off,A=some ⟨b,off,none⟩/\b<w.heap.size/\
   ∀i,i<n->∃cs',cs'.length=P.cellsOf e/\(∀j,j<P.cellsOf e->w.cell? ⟨b,off+i*P.cellsOf e+j,none⟩=cs'[j]?)/\Seen enc P w e cs'):=by
 obtain⟨aeH,x,hf⟩:=h;rcases Deep.open_slice ht hf with⟨rfl,_⟩|⟨a,len,cap,m,n,D,Pl,rfl,_,hl,hm,hmm,_,hi⟩
 ·exact⟨none,0,0,J,Nat.le_refl _,Nat.zero_le _,fun h=>absurd h I⟩
 ·
  refine⟨some a,len,cap,J,hl,hm,fun agE=>?_⟩;have hmc:m=cap:=by simpa using hmm
  obtain⟨cs0,hc0,_⟩:=hi 0 I;obtain⟨_,arZ,agY⟩:=World.cells?_some hc0;have h00:=agY 0 hsz;rw[List.getElem?_eq_getElem I]at h00;have aiC:a.spot=none:=by simpa[Addr.add]using World.cell?_spot h00
  have aoU:a.block<w.heap.size:=mC;obtain⟨b,off,spot⟩:=a;simp only at aiC;subst aiC;refine⟨b,off,J,aoU,fun i hi'=>?_⟩;obtain⟨cs',hc',ht'⟩:=hi i I;obtain⟨_,ahx,ajm⟩:=World.cells?_some hc';refine⟨cs',ahx,fun j hj=>?_,n,_,ht'⟩;have:=ajm j hj;rw[Deep.add_add]at this;rw[<-this];congr 1;unfold Addr.add;split
  ·rename_i h0;have h0':i*P.cellsOf e=0/\j=0:=I;exact tE
  ·simp[Nat.add_assoc]
end
theorem aeO{α:Type}{l:List α}(h:l.length=1):∃x0,l=[x0]:=by
 match l,h with
 |[x0],_=>exact⟨x0,J⟩
theorem own:ownKnob prog.godebug=none:=by kernel_rfl
theorem laidOut:laidOutB prog=true:=by kernel_rfl
set_option linter.unusedVariables false
def Nm{H:Type}(P:Program)(t:TypeId)(d:DataW H):Prop:=∀k∈d.weights P t,k<=reachBytes
theorem AO{H:Type}{P:Program}:∀(ts:List TypeId) (ds:List (DataW H)) (i:Nat) (t:TypeId) (d:DataW H),ts[i]?=some t->ds[i]?=some d->∀k∈d.weights P t,k∈DataW.weightsEach P ts ds
 |t'::ts,d'::ds,0,t,d,ht,hd,k,O=>by
  simp at ht hd;subst ht hd;simp[DataW.weightsEach];exact .inl O
 |t'::ts,d'::ds,i+1,t,d,ht,hd,k,O=>by
  simp at ht hd;simp[DataW.weightsEach];exact .inr (AO ts ds i t d ht hd k O)
 |[],_,i,t,d,ht,hd,k,O=>by simp at ht
 |_::_,[],i,t,d,ht,hd,k,O=>by simp at hd
theorem Cc{H:Type}{P:Program}{e:TypeId}:∀(ds:List (DataW H)) (d:DataW H),d∈ds->∀k∈d.weights P e,k∈DataW.weightsAll P e ds
 |d'::ds,d,hd,k,O=>by
  simp only[DataW.weightsAll,List.mem_append];rcases List.mem_cons.1 hd with rfl|h
  ·exact .inl O
  ·exact .inr (Cc ds d h k O)
theorem Gu{H:Type}{P:Program}{ts:List TypeId}{ds:List (DataW H)}(h:(DataW.weightsEach P ts ds).all (· <=reachBytes)=true){i:Nat}{d:DataW H}(ht:ts[i]?=some t)(hd:ds[i]?=some d):Nm P t d:=by
 intro k O;have:=List.all_eq_true.1 h k (AO ts ds i t d ht hd k O);simpa using this
def uT{H:Type}(enc:TypeId×Value->H)(P:Program)(w:World)(t:TypeId)(cs:List Value):Prop:=
 ∃aeH x,DataW.trod enc P w 0 (fun _=>true) true aeH t cs=some x/\Nm P t x.1
section
variable {H:Type} {enc:TypeId×Value->H} {P:Program} {w:World} {t:TypeId} {cs:List Value}
theorem uT.of{d:DataW H}{p:List MemPlace}(h:DataW.Trod enc P w 0 (fun _=>true) true t v d p)(hl:Nm P t d):uT enc P w t v.cells.toList:=by
 obtain⟨aeH,hf⟩:=h;exact⟨aeH,_,hf,hl⟩
theorem uT.Yx(h:uT enc P w t cs):Seen enc P w t cs:=by
 obtain⟨aeH,x,hf,_⟩:=h;exact⟨aeH,x,hf⟩
theorem uT.bool(h:uT enc P w t cs)(ht:P.underlying t=some .bool):∃b,cs=[.bool b]:=h.Yx.bool ht
theorem uT.int{k:IntKind}(h:uT enc P w t cs)(ht:P.underlying t=some (.int k)):∃n,cs=[.int k n]/\(Lit.int k n).wf=true:=h.Yx.int ht
theorem uT.string(h:uT enc P w t cs)(ht:P.underlying t=some .string):∃l:List UInt8,cs=[.string (bs l)]/\l.length<=140737488355328:=by
 obtain⟨aeH,x,hf,hl⟩:=h;obtain⟨s,hs,hx,hm⟩:=DataW.trod_string ht hf;refine⟨s.data.toList,by rw[hs,<-adY],?_⟩;have:=hl s.data.toList.length (by rw[hx];simp[DataW.weights]);unfold reachBytes at this;omega
theorem uT.struct{fs:Array Field}(h:uT enc P w t cs)(ht:P.underlying t=some (.struct fs)):
  cs.length=P.cellsOf t/\∀(i:Nat) (f:Field),fs[i]?=some f->uT enc P w f.type ((cs.drop f.offset).take (P.cellsOf f.type)):=by
 obtain⟨aeH,x,hf,Hh⟩:=h;obtain⟨xs,n,_,hxx,hl,hx,hi⟩:=DataW.trod_struct ht hf;refine⟨hl,fun i f hif=>?_⟩;have tQ:i<xs.length:=by rw[hx];exact(Array.getElem?_eq_some_iff.1 hif).1
 refine⟨n,xs[i],by rw[hi i f hif,List.getElem?_eq_getElem tQ],?_⟩;intro k O;refine Hh k ?_;rw[hxx];simp only[DataW.weights,ht];refine AO _ _ i f.type xs[i].1 ?_ ?_ k O
 ·simp[hif]
 ·simp[List.getElem?_eq_getElem tQ]
theorem uT.array{n:Nat}(h:uT enc P w t cs)(ht:P.underlying t=some (.array n e)):
  cs.length=P.cellsOf t/\∀i,i<n->uT enc P w e ((cs.drop (i*P.cellsOf e)).take (P.cellsOf e)):=by
 obtain⟨aeH,x,hf,Hh⟩:=h;obtain⟨xs,m,_,hxx,hl,hx,hi⟩:=DataW.trod_array ht hf;refine⟨hl,fun i hin=>?_⟩;have tQ:i<xs.length:=I;refine⟨m,xs[i],by rw[hi i hin,List.getElem?_eq_getElem tQ],?_⟩;intro k O;refine Hh k ?_;rw[hxx];simp only[DataW.weights,ht];refine Cc _ xs[i].1 ?_ k O;exact List.mem_map.2 ⟨xs[i],List.getElem_mem tQ,J⟩
theorem uT.slice(h:uT enc P w t cs)(ht:P.underlying t=some (.slice e))(hsz:0<P.cellsOf e):
  ∃A n c,cs=[.slice A n c]/\n<=c/\c<=maxLen/\n*P.bytesOf e<=140737488355328/\(0<n->∃b off,A=some ⟨b,off,none⟩/\b<w.heap.size/\
   ∀i,i<n->∃cs',cs'.length=P.cellsOf e/\(∀j,j<P.cellsOf e->w.cell? ⟨b,off+i*P.cellsOf e+j,none⟩=cs'[j]?)/\uT enc P w e cs'):=by
 obtain⟨aeH,x,hf,Hh⟩:=h;rcases Deep.open_slice ht hf with⟨rfl,_⟩|⟨a,len,cap,m,n,D,Pl,rfl,_,hl,hm,hmm,hxx,hi⟩
 ·exact⟨none,0,0,J,Nat.le_refl _,Nat.zero_le _,ap,fun h=>absurd h I⟩
 ·
  have hmc:m=cap:=by simpa using hmm
  refine⟨some a,len,cap,J,hl,hm,?_,fun agE=>?_⟩
  ·have:=Hh ((len+(m-len))*P.bytesOf e) (by rw[hxx];simp[DataW.weights,ht]);unfold reachBytes at this;have X:len*P.bytesOf e<=(len+(m-len))*P.bytesOf e:=Nat.mul_le_mul_right _ I;omega
  obtain⟨cs0,hc0,_⟩:=hi 0 I;obtain⟨_,arZ,agY⟩:=World.cells?_some hc0;have h00:=agY 0 hsz;rw[List.getElem?_eq_getElem I]at h00;have aiC:a.spot=none:=by simpa[Addr.add]using World.cell?_spot h00
  have aoU:a.block<w.heap.size:=mC;obtain⟨b,off,spot⟩:=a;simp only at aiC;subst aiC;refine⟨b,off,J,aoU,fun i hi'=>?_⟩;obtain⟨cs',hc',ht'⟩:=hi i I;obtain⟨_,ahx,ajm⟩:=World.cells?_some hc';refine⟨cs',ahx,fun j hj=>?_,n,_,ht',?_⟩
  ·
   have:=ajm j hj;rw[Deep.add_add]at this;rw[<-this];congr 1;unfold Addr.add;split
   ·rename_i h0;exact tE
   ·simp[Nat.add_assoc]
  ·intro k O;refine Hh k ?_;rw[hxx];simp only[DataW.weights,ht,List.mem_cons,List.mem_append];right;left;exact Cc _ (D i) (List.mem_map.2 ⟨i,List.mem_range.2 hi',J⟩) k O
end
def xj(w:World)(A:Option Addr)(c:Nat)(n:List (List UInt8)):Prop:=zS w A n/\n.length<=c/\n.length<=17592186044416/\∀l∈n,l.length<=140737488355328
theorem xj.G{w':World}(h:xj w A c n)(F:al w w'):xj w' A c n:=⟨h.1.G F,h.2⟩
theorem KI{H:Type}{enc:TypeId×Value->H}{cs:List Value}(ht:prog.underlying t=some (.slice 9))(h:uT enc prog w t cs):∃A c l,cs=[.slice A (l:List (List UInt8)).length c]/\xj w A c l:=by
 have c9:prog.cellsOf 9=1:=by kernel_rfl
 have b9:prog.bytesOf 9=16:=by kernel_rfl
 obtain⟨A,n,c,rfl,hnc,_,hby,hn⟩:=h.slice ht (by rw[c9];omega);rw[b9]at hby;by_cases agE:0<n
 ·
  obtain⟨b,off,rfl,F,hi⟩:=hn agE;rw[c9]at hi;have key:∀i,i<n->∃t:List UInt8,w.cell? ⟨b,off+i,none⟩=some (.string (bs t))/\t.length<=140737488355328:=by intro i hin;obtain⟨cs',hl,hc,hs⟩:=hi i hin;obtain⟨x,rfl⟩:=aeO hl;obtain⟨s,e,hsl⟩:=hs.string underlying9;simp at e;subst e;refine⟨s,?_,hsl⟩;have:=hc 0 I;rwa[Nat.mul_one,Nat.add_zero]at this
  obtain⟨f,hf⟩:=Deep.choose_lt key;refine⟨some ⟨b,off,none⟩,c,(List.range n).map f,ap,fun _=>⟨b,off,J,F,fun i hin=>?_⟩,by simpa using hnc,az,?_⟩
  ·have ak4:i<n:=mQ;rw[(hf i ak4).1];simp
  ·intro l hl;obtain⟨i,hir,rfl⟩:=List.mem_map.1 hl;exact(hf i (List.mem_range.1 hir)).2
 ·obtain rfl:n=0:=I;exact⟨A,c,[],J,fun h=>absurd h ap,ap,ap,ap⟩
open Go.RowKit
set_option maxRecDepth 100000
def Db(s:GS):Nat:=(255-s.size)+min s.bound 16384
theorem We{at' a2:Nat}{behind:Option Nat}{acc acc2:List (List UInt8)}(hz:¬255<size+(c+1)):Db ⟨a2,size+(c+1),bound,behind,acc2⟩<Db ⟨at',size,bound,behind,acc⟩:=by simp only[Db];omega
theorem Wf{at' q:Nat}{behind b2:Option Nat}{acc:List (List UInt8)}(hq:q<bound)(h:q<16384):Db ⟨q,size,q,b2,acc⟩<Db ⟨at',size,bound,behind,acc⟩:=by simp only[Db];omega
theorem aeP(m:List UInt8)(p:Nat)(h:¬m.length<=p+1):uN ((m.take (p+2)).drop p)=(m.getD p 0).toNat*256+(m.getD (p+1) 0).toNat:=by
 have e:(m.take (p+2)).drop p=[m.getD p 0,m.getD (p+1) 0]:=by
  rw[List.drop_take,show p+2-p=2 by omega];have U:m.drop p=m.getD p 0::m.drop (p+1):=by rw[List.drop_eq_getElem_cons I];simp[List.getD,List.getElem?_eq_getElem (show p<m.length by omega)]
  have X:m.drop (p+1)=m.getD (p+1) 0::m.drop (p+2):=by rw[List.drop_eq_getElem_cons I];simp[List.getD,List.getElem?_eq_getElem (show p+1<m.length by omega)]
  rw[U,X];rfl
 rw[e];simp[uN];omega
def acS(m:List UInt8)(w:World)(o:GO)(k:Nat)(ud n size from_ end_ step:Value)(wr:World):Prop:=
 ∃(s:GS) (st:Nat),Db s<=k/\Cs m s o/\s.at'<=m.length/\s.bound<=m.length/\s.size<=255/\s.acc.length<=s.size/\(∀b,s.behind=some b->b<=m.length)/\st+Db s<=60000/\
  ud= .int .i64 s.at'/\size= .int .i64 s.size/\from_= .int .i64 s.bound/\end_= .int .i64 (OG s.behind)/\step= .int .i64 st/\
  wh wr n s.acc/\al w wr/\(∀k,n.ownBlock=some k->w.heap.size<=k)
theorem Tq(m:List UInt8)(ud:Int)(w:World)(h:JG m ud=true):
  Calls prog 181 #[.string (bs m),.int .i64 ud] w (CP (.err 4) w):=by
 have F:ud<0\/(0<=ud/\(m.length:Int)<ud):=by simp[JG]at h;omega
 clear h;rcases F with h|⟨h0,h⟩;all_goals
  go_enter func181,ntmps181;go_wp2_with fail;go_ret3;exact⟨_,J,wh.nil _,Below.refl _ _,by simp[Value.ownBlock]⟩
theorem Wg(m:List UInt8)(a:Nat)(w:World)(hl:m.length<=4000000)(ha:a<=m.length)(o:GO)(ho:Cs m ⟨a,1,a,none,[]⟩ o):
  Calls prog 181 #[.string (bs m),.int .i64 a] w (CP o w):=by
 have d1:decide ((a:Int)<0)=false:=ik;have d2:decide (m.length<a)=false:=ik;go_enter func181,ntmps181;go_wp2_with fail;go_loopg [1,7,8,9,10,11] (Db ⟨a,1,a,none,[]⟩) (fun k ud n size from_ end_ step wr=>acS m w o k ud n size from_ end_ step wr)
 case atStart=>exact⟨⟨a,1,a,none,[]⟩,0,Nat.le_refl _,ho,ha,ha,ap,ap,ap,by simp[Db];omega,J,J,J,J,J,wh.nil _,Below.refl _ _,by simp[Value.ownBlock]⟩
 case round=>
  clear ho;obtain⟨⟨at',size,bound,behind,acc⟩,st,O,hG,hat,hbd,hsz,ajo,hbh,hst,rfl,rfl,rfl,rfl,rfl,hT,hB,hob⟩:=hrel;simp only at O hG hat hbd hsz ajo hbh hT hst;have awy:(st:Int)<70000:=I;go_upto_if 30 with fail;clear awy;have aEV:st<=m.length+60000:=I;have HG:=Y hG;have HOB:=Y hob;have HBH:=Y hbh;have HK:=Y O;have HST:=Y hst;clear hG hob hbh O hst;by_cases U:m.length<=at'
  ·have e1:o= .err 1:=nW;subst e1;have h1':(m.length:Int)<=at':=I;exact pq
  ·
   have h1':(at':Int)<m.length:=I;have Hh:at'<m.length:=I;obtain⟨c,hc⟩:∃c,c=(m.getD at' 0).toNat:=gp;have asn:c<256:=mV;have ak5:=Oz m at' c Hh hc;have HC:=Y hc;clear hc;by_cases h0:c=0
   ·
    subst h0;cases behind with
    |none=>have e1:o= .ok acc (at'+1):=jf;exact sL
    |some b=>have e1:o= .ok acc b:=jf;exact sL
   ·
    have h0':((c:Int)==0)=false:=az;by_cases agO:c<192
    ·
     have alm:(c:Int)<192:=I;by_cases h63:c<=63
     ·
      have apd:(c:Int)<64:=I;by_cases hs:m.length<at'+1+c
      ·have e1:o= .err 1:=mG;subst e1;have hs':(m.length:Int)<(at':Int)+1+c:=I;clear h0;exact pq
      ·
       have hs':(at':Int)+1+c<=m.length:=I;by_cases hz:255<size+(c+1)
       ·have e1:o= .err 3:=mn;subst e1;have hz':(255:Int)<(size:Int)+c+1:=I;clear h0;exact pq
       ·
        have hz':(size:Int)+c+1<=255:=I;have G2:=JY HG.out (OI U HC.out h0 h63 hs hz);have HG2:=Y G2;have HM:=Y (We (at':=at') (a2:=at'+1+c) (bound:=bound) (behind:=behind) (acc:=acc) (acc2:=acc++[(m.take (at'+1+c)).drop (at'+1)]) hz);clear h0 G2 U;go_wp2_with(at_builtin;go_must(refine Gs _ J (.tmp 81) (.tmp 90) 25 J 9 (.string ⟨#[]⟩) 1 16 underlying25 DB J ax _ acc.length _ J (World.ownsRow.alloc hT _) ⟨wr.heap.size,0,none⟩ 1 1 [.string (bs ((m.take (at'+1+c)).drop (at'+1)))] J J (Bf _ _ _ _ J) (zm J) ax aJ I ?_));intro g cap w1 af4 af0 ast;have hB1:al w w1:=(hB.alloc hB.size _).grown af0 aS (fun k O=>HOB.out k O);have hT1:wh w1 (.slice (some ⟨g,0,none⟩) (acc.length+1) cap) (acc++[(m.take (at'+1+c)).drop (at'+1)]):=by unfold wh;simpa using af4
        have arP:∀k,(Value.slice (some ⟨g,0,none⟩) (acc.length+1) cap).ownBlock=some k->w.heap.size<=k:=by
         intro k O;have hkg:g=k:=iE;subst hkg;rcases ast with e|e
         ·exact HOB.out _ e
         ·have:=hB.size;omega
        have ayW:=Y arP;clear af4 af0 ast arP HOB hT;go_wp2_with fail;go_roundg (Db ⟨at'+1+c,size+(c+1),bound,behind,acc++[(m.take (at'+1+c)).drop (at'+1)]⟩)
        case measure=>exact Nat.lt_of_lt_of_le HM.out HK.out
        case rel=>exact⟨_,st+1,Nat.le_refl _,HG2.out,fV,hbd,fV,az,HBH.out,by have U:=HM.out;have X:=HST.out;omega,fU,fU,J,J,fU,hT1,hB1,ayW.out⟩
     ·have apd:(64:Int)<=c:=I;have e1:o= .err 7:=m6;subst e1;clear h0;exact pq
    ·
     have alm:(192:Int)<=c:=I;by_cases hps:m.length<=at'+1
     ·have awD:(m.length:Int)<=(at':Int)+1:=I;have e1:o= .err 1:=mH;subst e1;clear h0;exact pq
     ·
      have awD:(at':Int)+1<m.length:=I;have N2:=aeP m at' hps;obtain⟨d,hd⟩:∃d,d=(m.getD (at'+1) 0).toNat:=gp;have ash:d<256:=mU;have HD:=Y hd;rw[<-HC.out,<-hd]at N2;have HN:=Y N2;have hl2:((m.take (at'+2)).drop at').length<=4:=az;have HL2:=Y hl2;clear hd h0 N2 hl2;go_wp2_with fail;refine(xW _ _ HL2.out).mono ?_;rw[HN.out];rintro e w1 ⟨rfl,rfl⟩;have anx:((c*256+d:Nat):Int)=(c:Int)*256+d:=I;rw[anx];clear anx HN HL2;by_cases hpb:bound<=c*256+d-49152
      ·have e1:o= .err 9:=lI;subst e1;have aot:(bound:Int)<=(c:Int)*256+d-49152:=I;clear hpb;exact pq
      ·
       have G2:=JY HG.out (OJ U HC.out agO hps HD.out hpb);have HG2:=Y G2;have aot:(c:Int)*256+d-49152<bound:=I;obtain⟨q,hq⟩:∃q,q=c*256+d-49152:=gp;rw[<-hq]at HG2;have hqi:(c:Int)*256+d-49152=q:=I;have HQ:=Y hqi;have hqb:q<bound:=I;have arN:q<16384:=I;have HM:=Y (Wf (at':=at') (size:=size) (behind:=behind) (b2:=some (behind.getD (at'+2))) (acc:=acc) hqb arN);have aor:at'+2<=m.length:=I;clear hq hqi hpb U hps G2;cases behind with
       |none=>
        unfold OG;go_wp2_with fail;go_roundg (Db ⟨q,size,q,some (at'+2),acc⟩)
        case measure=>exact Nat.lt_of_lt_of_le HM.out HK.out
        case rel=>exact⟨_,st+1,Nat.le_refl _,HG2.out,fV,fV,hsz,ajo,(fun b F=>by injection F with F;subst F;exact aor),(by have U:=HM.out;have X:=HST.out;simp only[Option.getD_none]at U⊢;omega),by rw[HQ.out],J,by rw[HQ.out],congrArg (Value.int .i64) (show(at':Int)+2=((at'+2:Nat):Int)by omega),fU,hT,hB,HOB.out⟩
       |some b=>
        unfold OG;go_wp2_with fail;go_roundg (Db ⟨q,size,q,some b,acc⟩)
        case measure=>exact Nat.lt_of_lt_of_le HM.out HK.out
        case rel=>exact⟨_,st+1,Nat.le_refl _,HG2.out,fV,fV,hsz,ajo,fun b' hb'=>HBH.out b' hb',(by have U:=HM.out;have X:=HST.out;simp only[Option.getD_some]at U⊢;omega),by rw[HQ.out],J,by rw[HQ.out],J,fU,hT,hB,HOB.out⟩
theorem KJ(m:List UInt8)(ud:Int)(w:World)(hl:m.length<=4000000):
  Calls prog 181 #[.string (bs m),.int .i64 ud] w (CP (Bg m ud) w):=by
 unfold Bg;cases h:JG m ud with
 |true=>rw[if_pos J];exact Tq m ud w h
 |false=>rw[if_neg ap];have F:0<=ud/\ud<=m.length:=kW;have:=Wg m ud.toNat w hl I _ (Hi m ud.toNat);rwa[Int.toNat_of_nonneg F.1]at this
def acT(m:List UInt8)(s:GS):Prop:=1+uQ s.acc=s.size/\s.size<=255/\yv s.acc/\s.at'<=m.length/\s.bound<=m.length/\∀b,s.behind=some b->b<=m.length
def ad7(m:List UInt8):GO->Prop
 | .ok l n=>yv l/\1+uQ l<=255/\n<=m.length
 | .err e=>e=1\/e=3\/e=7\/e=9
 | .go _=>False
theorem yv.snoc{a:List (List UInt8)}{l:List UInt8}(h:yv a)(U:1<=l.length)(X:l.length<=63):yv (a++[l]):=by
 intro x hx;rcases List.mem_append.1 hx with hx|hx
 ·exact h x hx
 ·rw[List.mem_singleton]at hx;subst hx;exact⟨U,X⟩
theorem Nn{m:List UInt8}{s:GS}(hi:acT m s):(∃s',wV m s= .go s'/\acT m s')\/(ad7 m (wV m s)/\∀s',wV m s≠ .go s'):=by
 obtain⟨at',size,bound,behind,acc⟩:=s;obtain⟨U,X,h3,h4,h5,h6⟩:=hi;simp only at U X h3 h4 h5 h6;obtain⟨c,hc⟩:∃c,c=(m.getD at' 0).toNat:=gp;by_cases e1:m.length<=at'
 ·
  right;have:wV m ⟨at',size,bound,behind,acc⟩= .err 1:=by simp[wV,e1]
  rw[this];exact⟨.inl J,ap⟩
 by_cases e0:c=0
 ·
  right;rw[OH e1 (by rw[<-hc,e0])];refine⟨⟨h3,I,?_⟩,ap⟩;cases behind with
  |none=>simp;omega
  |some b=>simpa using h6 b J
 by_cases e63:c<=63
 ·
  by_cases es:m.length<at'+1+c
  ·right;rw[Qp e1 hc e0 e63 es];exact⟨.inl J,ap⟩
  by_cases ez:255<size+(c+1)
  ·right;rw[U4 e1 hc e0 e63 es ez];exact⟨.inr (.inl J),ap⟩
  left;refine⟨_,OI e1 hc e0 e63 es ez,?_⟩;have hl:((m.take (at'+1+c)).drop (at'+1)).length=c:=az;refine⟨?_,fV,h3.snoc I I,fV,h5,h6⟩;simp only[Kn,uQ,hl];omega
 by_cases amJ:c<192
 ·right;rw[Yl e1 hc e63 amJ];exact⟨.inr (.inr (.inl J)),ap⟩
 by_cases ep:m.length<=at'+1
 ·right;rw[Ng e1 hc amJ ep];exact⟨.inl J,ap⟩
 by_cases eb:bound<=c*256+(m.getD (at'+1) 0).toNat-49152
 ·right;rw[U5 e1 hc amJ ep J eb];exact⟨.inr (.inr (.inr J)),ap⟩
 left;refine⟨_,OJ e1 hc amJ ep J eb,U,X,h3,fV,fV,?_⟩;intro b F;cases behind with
 |none=>simp at F;omega
 |some b'=>simp at F;subst F;exact h6 _ J
theorem Yy{m:List UInt8}{s:GS}{o:GO}(h:Cs m s o):acT m s->ad7 m o:=by
 induction h with
 |err e=>exact rX
 |ok e=>exact rX
 |go e _ ih=>
  intro hi;rcases Nn hi with⟨s',h,hi'⟩|⟨_,h⟩
  ·rw[e]at h;injection h with h;subst h;exact ih hi'
  ·exact absurd e (h _)
def ad8(m:List UInt8):GO->Prop
 | .ok l n=>yv l/\1+uQ l<=255/\n<=m.length
 | .err e=>e=1\/e=3\/e=4\/e=7\/e=9
 | .go _=>False
theorem Yz(m:List UInt8)(ud:Int):ad8 m (Bg m ud):=by
 unfold Bg;cases h:JG m ud with
 |true=>rw[if_pos J];exact .inr (.inr (.inl J))
 |false=>
  rw[if_neg ap];have F:0<=ud/\ud<=m.length:=kW;have:=Yy (Hi m ud.toNat) ⟨J,ap,by intro x hx;simp at hx,fV,fV,ap⟩;cases ho:Tj m ud.toNat with
  |ok l n=>rw[ho]at this;exact this
  |err e=>rw[ho]at this;rcases this with h|h|h|h<;>simp[ad8,h]
  |go s=>rw[ho]at this;exact this
theorem aa0{m:List UInt8}{b p:Nat}{e:Nat}(h:Rd m b p n e):∀(size:Nat) (acc:List (List UInt8)) (beh:Option Nat),size+uQ n<=255->Cs m ⟨p,size,b,beh,acc⟩ (.ok (acc++n) (beh.getD e)):=by
 induction h with
 |nil U X=>intro size acc beh _;rw[List.append_nil];exact .ok (OH I X.symm)
 | @cons b p l n e U X h3 h4 h5 h6 _ ih=>intro size acc beh hs;simp only[uQ]at hs;refine .go (OI I X.symm I h4 I I) ?_;rw[h6];have:=ih (size+(l.length+1)) (acc++[l]) beh I;simpa using this
 | @ptr b p q n e U X h3 h4 _ ih=>intro size acc beh hs;have hp:=OJ (m:=m) (at':=p) (size:=size) (bound:=b) (behind:=beh) (acc:=acc) I J I I J I;rw[h3]at hp;refine .go hp ?_;have:=ih size acc (some (beh.getD (p+2))) hs;simpa using this
theorem aa1{m:List UInt8}{p:Nat}{e:Nat}(h:Rd m p p n e)(hp:p<=m.length)(hs:1+uQ n<=255):Bg m p= .ok n e:=by
 have U:=aa0 h 1 [] none hs;unfold Bg;have ho:JG m p=false:=by simp[JG];omega
 rw[ho,if_neg ap,Int.toNat_natCast];exact Yn (Hi m p) U
open Go.RowKit Go.Maps
def yw(n:List (List UInt8)):List UInt8:=if tY n=0 then OL n else[]
theorem KK(A:Option Addr)(c:Nat)(n:List (List UInt8))(ud:Int)(w:World)(hA:xj w A c n):
  Calls prog 236 #[.pointer none,.slice A n.length c,.int .i64 ud] w (uf (.tuple #[.string (bs (yw n)),.int .i64 (tY n)]) w):=by
 obtain⟨U,X,h3,h4⟩:=hA;by_cases hc:tY n=0
 ·unfold yw;rw[if_pos hc];have:=aaW A c n ud w U I hc;rwa[hc]
 ·unfold yw;rw[if_neg hc];exact(U9 none A c n ud w U I hc).mono fun _ _ h=>h.toB
theorem Gj(A:Option Addr)(c:Nat)(n:List (List UInt8))(ud:Int)(w:World)(hA:xj w A c n):
  Calls prog 112 #[.pointer none,.slice A n.length c,.int .i64 ud] w (uf (.tuple #[.string (bs (yw n)),.int .i64 (tY n)]) w):=by
 obtain⟨U,X,h3,h4⟩:=hA;by_cases hc:tY n=0
 ·unfold yw;rw[if_pos hc];have:=Tp A c n ud w U X hc;rwa[hc]
 ·unfold yw;rw[if_neg hc];exact(KG none A c n ud w U I hc).mono fun _ _ h=>h.toB
def Ts(g b:Nat)(T:List (List (List UInt8)×Nat))(n:List (List UInt8))(ud:Int)(w:World)(e:Ending)(w':World):Prop:=
 e= .returned (.tuple #[.string (bs (It T ud n)),.int .i64 (tY n)])/\AY w' g b (JH T ud n)/\w.grownBy w' (some b)
theorem Tt(g b:Nat)(T:List (List (List UInt8)×Nat))(A:Option Addr)(c:Nat)(n:List (List UInt8))(ud:Int)(w:World)(hT:AY w g b T)(hA:xj w A c n)(hTl:T.length<=900000):
  Calls prog 236 #[.pointer (some ⟨g,0,none⟩),.slice A n.length c,.int .i64 ud] w (Ts g b T n ud w):=by
 obtain⟨U,X,h3,h4⟩:=hA;by_cases hc:tY n=0
 ·refine(aaY g b T A c n ud w hT U I hc I).mono ?_;rintro e w' ⟨rfl,h5,h6⟩;unfold Ts It JH;exact tz
 ·refine(U9 (some ⟨g,0,none⟩) A c n ud w U I hc).mono ?_;rintro e w' ⟨rfl,rfl⟩;unfold Ts It JH;rw[if_neg hc,if_neg hc];exact⟨J,hT,World.grownBy.refl _ _⟩
def OP(lo g:Nat)(T:List (List (List UInt8)×Nat))(n:List (List UInt8))(ud:Int)(w:World)(e:Ending)(w':World):Prop:=
 e= .returned (.tuple #[.string (bs (It T ud n)),.int .i64 (tY n)])/\FY lo w' g (JH T ud n)/\vp lo w w'
theorem Mt(lo g:Nat)(T:List (List (List UInt8)×Nat))(A:Option Addr)(c:Nat)(n:List (List UInt8))(ud:Int)(w:World)(hT:FY lo w g T)(tK:lo<=w.heap.size)(hgl:lo<=g)(hL:FT lo w (.slice A n.length c) n)(hA:xj w A c n)(hTl:T.length<=900000):
  Calls prog 112 #[.pointer (some ⟨g,0,none⟩),.slice A n.length c,.int .i64 ud] w (OP lo g T n ud w):=by
 obtain⟨U,X,h3,h4⟩:=hA;by_cases hc:tY n=0
 ·refine(Tn lo g T A c n ud w hT tK hgl hL X hc hTl).mono ?_;rintro e w' ⟨rfl,h5,h6⟩;unfold OP It JH;exact tz
 ·refine(KG (some ⟨g,0,none⟩) A c n ud w U I hc).mono ?_;rintro e w' ⟨rfl,rfl⟩;unfold OP It JH;rw[if_neg hc,if_neg hc];exact⟨J,hT,vp.refl _ _⟩
theorem Qs(T:List (List (List UInt8)×Nat))(ud:Int)(n:List (List UInt8)):(JH T ud n).length<=T.length+254:=by
 unfold JH;by_cases hc:tY n=0
 ·
  rw[if_pos hc,List.length_append];have hn:n.length<=254:=by have:=(wK hc).2;have:=zE n;omega
  have:∀(n:List (List UInt8)) (pre:List UInt8),(EZ T ud pre n).2.length<=n.length:=by
   intro n;induction n with
   |nil=>intro pre;simp[EZ]
   |cons l n ih=>
    intro pre;cases O:look T (l::n)with
    |some q=>rw[GY O];simp
    |none=>rw[Kp O];have:=ih (pre++zz l);simp only[List.length_append,List.length_cons];split<;>simp<;>omega
  have:=this n [];omega
 ·rw[if_neg hc];omega
def Hl(w:World)(A:Option Addr)(ls:List (List (List UInt8))):Prop:=0<ls.length->∃b off,A=some ⟨b,off,none⟩/\b<w.heap.size/\∀i (hi:i<ls.length),∃Ai ci,w.cell? ⟨b,off+i,none⟩=some (.slice Ai ls[i].length ci)/\xj w Ai ci ls[i]
theorem Qt(A:Option Addr)(c:Nat)(n:List (List UInt8))(w:World)(hA:xj w A c n):Calls prog 14 #[.slice A n.length c] w (yi (.bool (decide (uQ n<=400))) w):=
 aaM A c n w hA.1 aZ (fun l hl=>by have:=hA.2.2.2 l hl;omega)
def Hm(w:World)(A:Option Addr)(l:List Int):Prop:=0<l.length->∃b off,A=some ⟨b,off,none⟩/\b<w.heap.size/\∀i (hi:i<l.length),w.cell? ⟨b,off+i,none⟩=some (.int .i64 l[i])
theorem FT.of{lo:Nat}{w0:World}(h:zS w0 A n)(F:al w0 w)(tK:w0.heap.size<=lo):FT lo w (.slice A n.length c) n:=by
 refine⟨A,c,J,fun hp=>?_⟩;obtain⟨b,off,hA,Hh,hc⟩:=h hp;exact⟨b,off,hA,I,fun i hi=>(F.cell Hh).trans (hc i hi)⟩
theorem FY.new(w:World)(k:Nat)(O:k=w.heap.size):FY w.heap.size (w.alloc (.cells #[.slice none 0 0] 208)) k []:=by
 refine⟨[],.slice none 0 0,J,Z.vP w _ [.slice none 0 0] k O,World.ownsRow_nil _ _ _ _,fun i hv=>by simp at hv,ap⟩
end Go.Proofs.YthnbcmlnpdabhaaGreat
