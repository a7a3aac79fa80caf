/-
  Lists of events:as cells;what the reading of one says of its cells;Few.
-/
import Derived.Test.YthnbcmlnpdabhaaGreatHQq
import Derived.Test.YthnbcmlnpdabhaaGreatIBq
namespace Go.Proofs.YthnbcmlnpdabhaaGreat
open _root_.Go.Proofs.Tryz
set_option maxHeartbeats 8000000
open Go.ChangeShapes Go.WideShapes Go.ChangeAt Go.RowKit
set_option maxRecDepth 100000
set_option linter.unusedVariables false
set_option linter.unusedSimpArgs false
def aeo(e:Ev):Prop:=e.fr.ip.length=16/\e.data.length<=140737488355328
def QB(w:World)(A:Option Addr)(l:List Ev):Prop:=(∀e∈l,aeo e)/\(0<l.length->∃b off,A=some ⟨b,off,none⟩/\b<w.heap.size/\∀i (hi:i<l.length),w.rangeAt b (off+i*22) (yj l[i]))
theorem QB.G{w w':World}{A:Option Addr}{l:List Ev}(h:QB w A l)(Z:al w w'):QB w' A l:=by
 exact rD
theorem QB.uG{w:World}{A:Option Addr}{l:List Ev}(h:QB w A l)(k:Nat)(z:k<l.length):∃b off,A=some ⟨b,off,none⟩/\b<w.heap.size/\w.rangeAt b (off+k*22) (yj l[k])/\aeo l[k]:=by
 obtain⟨b,off,U,X,h3⟩:=h.2 I;exact⟨b,off,U,X,h3 k z,h.1 _ (List.getElem_mem z)⟩
section
variable {H:Type} {enc:TypeId×Value->H} {w:World} {cs:List Value}
theorem aa7(h:vH enc prog w 42 cs):∃e:Ev,cs=yj e/\e.fr.ip.length=16/\e.data.length<=140737488355328:=by
 have c22:prog.cellsOf 42=22:=by kernel_rfl
 have c1:prog.cellsOf 3=1:=by kernel_rfl
 have ca:prog.cellsOf 24=18:=by kernel_rfl
 have cs1:prog.cellsOf 9=1:=by kernel_rfl
 obtain⟨hl,hf⟩:=h.struct underlying42;rw[c22]at hl;have h0:vH enc prog w 3 ((cs.drop 0).take (prog.cellsOf 3)):=nJ;have U:vH enc prog w 24 ((cs.drop 1).take (prog.cellsOf 24)):=nI;have X:vH enc prog w 3 ((cs.drop 19).take (prog.cellsOf 3)):=oP;have h3:vH enc prog w 3 ((cs.drop 20).take (prog.cellsOf 3)):=hf 3 _ J;have h4:vH enc prog w 9 ((cs.drop 21).take (prog.cellsOf 9)):=hf 4 _ J;rw[ca]at U;rw[c1]at h0 X h3;rw[cs1]at h4;obtain⟨kd,e0⟩:=yG h0;obtain⟨ad,i16,e1⟩:=LO U;obtain⟨fp,e2⟩:=yG X;obtain⟨po,e3⟩:=yG h3;obtain⟨dt,e4,dl⟩:=h4.string underlying9;refine⟨⟨kd,ad,fp,po,dt⟩,?_,i16,dl⟩;show cs.drop 0=_;rw[xz cs 0 1 1 J,e0,xz cs 1 18 19 J,e1,xz cs 19 1 20 J,e2,xz cs 20 1 21 J,e3,xz cs 21 1 22 J,e4,List.drop_of_length_le I];rfl
theorem TP(h:vH enc prog w 56 cs):∃A c l,cs=[.slice A (l:List Ev).length c]/\QB w A l/\l.length<=17592186044416:=by
 have c9:prog.cellsOf 42=22:=by kernel_rfl
 have b9:prog.bytesOf 42=72:=by kernel_rfl
 obtain⟨A,n,c,rfl,hnc,_,hby,hn⟩:=h.slice underlying56 (by rw[c9];omega);rw[b9]at hby;by_cases ahl:0<n
 ·
  obtain⟨b,off,rfl,Z,hi⟩:=hn ahl;rw[c9]at hi;have key:∀i,i<n->∃e:Ev,w.rangeAt b (off+i*22) (yj e)/\aeo e:=by
   intro i hin;obtain⟨cs',hl,hc,hs⟩:=hi i hin;obtain⟨e,rfl,U,X⟩:=aa7 hs;refine⟨e,fun j v hv=>?_,U,X⟩;have hj:j<22:=by rw[<-hl];exact(List.getElem?_eq_some_iff.1 hv).1
   rw[hc j hj];exact hv
  haveI:Inhabited Ev:=⟨⟨0,vG.zero,0,0,[]⟩⟩
  obtain⟨f,hf⟩:=Deep.choose_lt key;refine⟨some ⟨b,off,none⟩,c,(List.range n).map f,ap,⟨fun e he=>?_,fun _=>⟨b,off,J,Z,fun i hin=>?_⟩⟩,aA⟩
  ·obtain⟨i,hi,rfl⟩:=List.mem_map.1 he;exact(hf i (List.mem_range.1 hi)).2
  ·have alX:i<n:=nb;simpa using(hf i alX).1
 ·obtain rfl:n=0:=I;exact⟨A,c,[],J,⟨ap,fun h=>absurd h ap⟩,ap⟩
end
open Go.RowKit
theorem acE:(prog.info? 42).map (·.size)=some 22:=by kernel_rfl
def GU(l:List Ev):Nat:=(l.map fun e=>e.data.length).sum
theorem Jx(l:List Ev)(k:Nat)(h:k<l.length):GU (l.take (k+1))=GU (l.take k)+l[k].data.length:=by
 unfold GU;rw[List.take_succ_eq_append_getElem h,List.map_append,List.sum_append];simp
theorem WM(l:List Ev)(k:Nat):GU (l.take k)<=GU l:=by
 have h:=List.take_append_drop k l;have e:GU l=GU (l.take k)+GU (l.drop k):=by
  conv=>lhs;rw[<-h]
  unfold GU;rw[List.map_append,List.sum_append]
 omega
def aep(l:List Ev)(most:Nat)(w:World)(e:Ending)(w':World):Prop:=∃b,e= .returned (.bool b)/\(b=true->l.length<=most/\GU l<=20000)/\al w w'
theorem Pg(A:Option Addr)(c:Nat)(l:List Ev)(most:Nat)(w:World)(hA:QB w A l)(hl:l.length<=17592186044416):
  Calls prog 23 #[.slice A l.length c,.int .i64 most] w (aep l most w):=by
 go_enter func23,ntmps23;go_wp2_with fail;go_loopw[5,6] (fun nv iv wr=>∃k:Nat,k<=l.length/\k<=most/\iv= .int .i64 k/\nv= .int .i64 (GU (l.take k):Nat)/\GU (l.take k)<=20000/\al w wr) (fun _ iv _=>l.length-(intOf iv).toNat)
 case atStart=>exact⟨0,Nat.zero_le _,Nat.zero_le _,J,J,by simp[GU],Below.refl _ _⟩
 obtain⟨k,z,hkm,rfl,rfl,ht,hW⟩:=hrel;by_cases aB:k<l.length
 case pos=>
  have h1:(k:Int)<l.length:=I;obtain⟨ba,oa,hA1,la1,ra,hev⟩:=hA.uG k aB;subst hA1;have E21:(yj l[k])[21]?=some (.string (bs l[k].data)):=CZ hev.1 2;have c21:wr.cell? ⟨ba,oa+k*22+21,none⟩=some (.string (bs l[k].data)):=(hW.cell (p:=⟨ba,oa+k*22+21,none⟩) la1).trans (ra 21 _ E21);have hdl:l[k].data.length<=140737488355328:=hev.2;have HT:=Y (Jx l k aB);have IX:=fun W=>Wn (ba:=ba) (oa:=oa) (c:=c) underlying56 acE I aB W
  clear ra hev E21;generalize GU (l.take k)=n at*;generalize l[k].data=dt at*;by_cases hm:k<most
  case neg=>have hm':(most:Int)<=k:=I;clear hm HT;exact tN
  have hm':¬(most:Int)<=k:=I;by_cases Z:n+dt.length<=20000
  case neg=>have hb':(20000:Int)<(n:Int)+dt.length:=I;clear Z HT;exact tN
  have hb':¬(20000:Int)<(n:Int)+dt.length:=I;go_wp2_with fail;go_roundw
  case rel=>exact⟨k+1,I,I,gp,(by rw[HT.out];go_num),(by rw[HT.out];omega),hW⟩
  case measure=>simp[intOf];omega
 obtain rfl:k=l.length:=I;have h1:¬(l.length:Int)<l.length:=I;rw[List.take_of_length_le (Nat.le_refl _)]at ht;have HT:=Y ht;clear ht;go_wp2_with fail;go_ret;exact⟨true,J,fun _=>⟨hkm,HT.out⟩,hW⟩
end Go.Proofs.YthnbcmlnpdabhaaGreat
