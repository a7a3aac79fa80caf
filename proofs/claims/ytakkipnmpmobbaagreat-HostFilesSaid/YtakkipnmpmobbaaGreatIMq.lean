/-
  Lists of events:as cells;what the reading of one says of its cells;Few.
-/
import Derived.Test.YtakkipnmpmobbaaGreatHQq
import Derived.Test.YtakkipnmpmobbaaGreatIBq
namespace Go.Proofs.YtakkipnmpmobbaaGreat
open _root_.Go.Proofs.Tryz
set_option maxHeartbeats 8000000
open Go.ChangeShapes Go.WideShapes Go.ChangeAt Go.RowKit
set_option maxRecDepth 100000
set_option linter.unusedVariables false
set_option linter.unusedSimpArgs false
def aeZ(e:Ev):Prop:=e.fr.ip.length=16/\e.data.length<=140737488355328
def Ru(w:World)(A:Option Addr)(l:List Ev):Prop:=(∀e∈l,aeZ e)/\(0<l.length->∃b off,A=some ⟨b,off,none⟩/\b<w.heap.size/\∀i (hi:i<l.length),w.rangeAt b (off+i*22) (vA l[i]))
theorem Ru.G{w w':World}{A:Option Addr}{l:List Ev}(h:Ru w A l)(Z:ao w w'):Ru w' A l:=by
 refine⟨h.1,fun hp=>?_⟩;obtain⟨b,off,U,F,h3⟩:=h.2 hp;exact⟨b,off,U,Nat.lt_of_lt_of_le F Z.size,fun i hi=>rN (h3 i hi) Z F⟩
theorem Ru.rU{w:World}{A:Option Addr}{l:List Ev}(h:Ru w A l)(k:Nat)(O:k<l.length):∃b off,A=some ⟨b,off,none⟩/\b<w.heap.size/\w.rangeAt b (off+k*22) (vA l[k])/\aeZ l[k]:=by
 obtain⟨b,off,U,F,h3⟩:=h.2 Y;exact⟨b,off,U,F,h3 k O,h.1 _ (List.getElem_mem O)⟩
section
variable {H:Type} {enc:TypeId×Value->H} {w:World} {cs:List Value}
theorem aa4(h:sj enc prog w 69 cs):∃e:Ev,cs=vA e/\e.fr.ip.length=16/\e.data.length<=140737488355328:=by
 have c22:prog.cellsOf 69=22:=by kernel_rfl
 have c1:prog.cellsOf 3=1:=by kernel_rfl
 have ca:prog.cellsOf 67=18:=by kernel_rfl
 have cs1:prog.cellsOf 9=1:=by kernel_rfl
 obtain⟨E,hf⟩:=h.struct underlying69;rw[c22]at E;have h0:sj enc prog w 3 ((cs.drop 0).take (prog.cellsOf 3)):=jK;have U:sj enc prog w 67 ((cs.drop 1).take (prog.cellsOf 67)):=jJ;have F:sj enc prog w 3 ((cs.drop 19).take (prog.cellsOf 3)):=lE;have h3:sj enc prog w 3 ((cs.drop 20).take (prog.cellsOf 3)):=hf 3 _ I;have h4:sj enc prog w 9 ((cs.drop 21).take (prog.cellsOf 9)):=hf 4 _ I;rw[ca]at U;rw[c1]at h0 F h3;rw[cs1]at h4;obtain⟨kd,e0⟩:=uS h0;obtain⟨ad,i16,e1⟩:=EG U;obtain⟨fp,e2⟩:=uS F;obtain⟨po,e3⟩:=uS h3;obtain⟨dt,e4,dl⟩:=h4.string underlying9;refine⟨⟨kd,ad,fp,po,dt⟩,?_,i16,dl⟩;show cs.drop 0=_;rw[tu cs 0 1 1 I,e0,tu cs 1 18 19 I,e1,tu cs 19 1 20 I,e2,tu cs 20 1 21 I,e3,tu cs 21 1 22 I,e4,List.drop_of_length_le Y];rfl
theorem aa5(h:sj enc prog w 59 cs):∃A c l,cs=[.slice A (l:List Ev).length c]/\Ru w A l/\l.length<=17592186044416:=by
 have c9:prog.cellsOf 69=22:=by kernel_rfl
 have b9:prog.bytesOf 69=72:=by kernel_rfl
 obtain⟨A,n,c,rfl,hnc,_,hby,hn⟩:=h.slice underlying59 (by rw[c9];omega);rw[b9]at hby;by_cases aid:0<n
 ·
  obtain⟨b,off,rfl,Z,hi⟩:=hn aid;rw[c9]at hi;have key:∀i,i<n->∃e:Ev,w.rangeAt b (off+i*22) (vA e)/\aeZ e:=by
   intro i hin;obtain⟨cs',E,hc,hs⟩:=hi i hin;obtain⟨e,rfl,U,F⟩:=aa4 hs;refine⟨e,fun j v hv=>?_,U,F⟩;have hj:j<22:=by rw[<-E];exact(List.getElem?_eq_some_iff.1 hv).1
   rw[hc j hj];exact hv
  haveI:Inhabited Ev:=⟨⟨0,sg.zero,0,0,[]⟩⟩
  obtain⟨f,hf⟩:=Deep.choose_lt key;refine⟨some ⟨b,off,none⟩,c,(List.range n).map f,ar,⟨fun e he=>?_,fun _=>⟨b,off,I,Z,fun i hin=>?_⟩⟩,aB⟩
  ·obtain⟨i,hi,rfl⟩:=List.mem_map.1 he;exact(hf i (List.mem_range.1 hi)).2
  ·have anC:i<n:=lk;simpa using(hf i anC).1
 ·obtain rfl:n=0:=Y;exact⟨A,c,[],I,⟨ar,fun h=>absurd h ar⟩,ar⟩
end
open Go.RowKit
theorem ac9:(prog.info? 69).map (·.size)=some 22:=by kernel_rfl
def BF(l:List Ev):Nat:=(l.map fun e=>e.data.length).sum
theorem ML(l:List Ev)(k:Nat)(h:k<l.length):BF (l.take (k+1))=BF (l.take k)+l[k].data.length:=by
 unfold BF;rw[List.take_succ_eq_append_getElem h,List.map_append,List.sum_append];simp
theorem ada(l:List Ev)(k:Nat):BF (l.take k)<=BF l:=by
 have h:=List.take_append_drop k l;have e:BF l=BF (l.take k)+BF (l.drop k):=by
  conv=>lhs;rw[<-h]
  unfold BF;rw[List.map_append,List.sum_append]
 omega
def ae0(l:List Ev)(most:Nat)(w:World)(e:Ending)(w':World):Prop:=∃b,e= .returned (.bool b)/\(b=true->l.length<=most/\BF l<=20000)/\ao w w'
theorem XU(A:Option Addr)(c:Nat)(l:List Ev)(most:Nat)(w:World)(hA:Ru w A l)(E:l.length<=17592186044416):
  Calls prog 20 #[.slice A l.length c,.int .i64 most] w (ae0 l most w):=by
 go_enter func20,ntmps20;go_wp2_with fail;go_loopw[5,6] (fun nv iv wr=>∃k:Nat,k<=l.length/\k<=most/\iv= .int .i64 k/\nv= .int .i64 (BF (l.take k):Nat)/\BF (l.take k)<=20000/\ao w wr) (fun _ iv _=>l.length-(intOf iv).toNat)
 case atStart=>exact⟨0,Nat.zero_le _,Nat.zero_le _,I,I,by simp[BF],Below.refl _ _⟩
 obtain⟨k,O,hkm,rfl,rfl,ht,hW⟩:=hrel;by_cases aA:k<l.length
 case pos=>
  have h1:(k:Int)<l.length:=Y;obtain⟨ba,oa,hA1,la1,ra,hev⟩:=hA.rU k aA;subst hA1;have E21:(vA l[k])[21]?=some (.string (bs l[k].data)):=Gg hev.1 2;have c21:wr.cell? ⟨ba,oa+k*22+21,none⟩=some (.string (bs l[k].data)):=(hW.cell (p:=⟨ba,oa+k*22+21,none⟩) la1).trans (ra 21 _ E21);have hdl:l[k].data.length<=140737488355328:=hev.2;have HT:=J (ML l k aA);have IX:=fun W=>Vs (ba:=ba) (oa:=oa) (c:=c) underlying59 ac9 Y aA W
  clear ra hev E21;generalize BF (l.take k)=n at*;generalize l[k].data=dt at*;by_cases hm:k<most
  case neg=>have hm':(most:Int)<=k:=Y;clear hm HT;exact qP
  have hm':¬(most:Int)<=k:=Y;by_cases Z:n+dt.length<=20000
  case neg=>have hb':(20000:Int)<(n:Int)+dt.length:=Y;clear Z HT;exact qP
  have hb':¬(20000:Int)<(n:Int)+dt.length:=Y;go_wp2_with fail;go_roundw
  case rel=>exact⟨k+1,Y,Y,fQ,(by rw[HT.out];go_num),(by rw[HT.out];omega),hW⟩
  case measure=>simp[intOf];omega
 obtain rfl:k=l.length:=Y;have h1:¬(l.length:Int)<l.length:=Y;rw[List.take_of_length_le (Nat.le_refl _)]at ht;have HT:=J ht;clear ht;go_wp2_with fail;go_ret;exact⟨true,I,fun _=>⟨hkm,HT.out⟩,hW⟩
end Go.Proofs.YtakkipnmpmobbaaGreat
