/-
  Lists of events:as cells;what the reading of one says of its cells;Few.
-/
import Derived.Test.YthnbcmlnpdabhaaGreatHQz
import Derived.Test.YthnbcmlnpdabhaaGreatIBz
namespace Go.Proofs.YthnbcmlnpdabhaaGreat
open _root_.Go.Proofs.Tryz
set_option maxHeartbeats 8000000
open Go.ChangeShapes Go.WideShapes Go.ChangeAt Go.RowKit
set_option maxRecDepth 100000
set_option linter.unusedVariables false
set_option linter.unusedSimpArgs false
def adw(e:Ev):Prop:=e.fr.ip.length=16/\e.data.length<=140737488355328
def Sz(w:World)(A:Option Addr)(l:List Ev):Prop:=(∀e∈l,adw e)/\(0<l.length->∃b off,A=some ⟨b,off,none⟩/\b<w.heap.size/\∀i (hi:i<l.length),w.rangeAt b (off+i*22) (xA l[i]))
theorem Sz.G{w w':World}{A:Option Addr}{l:List Ev}(h:Sz w A l)(F:al w w'):Sz w' A l:=by
 refine⟨h.1,fun hp=>?_⟩;obtain⟨b,off,U,X,h3⟩:=h.2 hp;exact⟨b,off,U,Nat.lt_of_lt_of_le X F.size,fun i hi=>tX (h3 i hi) F X⟩
theorem Sz.ud{w:World}{A:Option Addr}{l:List Ev}(h:Sz w A l)(k:Nat)(O:k<l.length):∃b off,A=some ⟨b,off,none⟩/\b<w.heap.size/\w.rangeAt b (off+k*22) (xA l[k])/\adw l[k]:=by
 obtain⟨b,off,U,X,h3⟩:=h.2 I;exact⟨b,off,U,X,h3 k O,h.1 _ (List.getElem_mem O)⟩
section
variable {H:Type} {enc:TypeId×Value->H} {w:World} {cs:List Value}
theorem SB(h:uT enc prog w 42 cs):∃e:Ev,cs=xA e/\e.fr.ip.length=16/\e.data.length<=140737488355328:=by
 have c22:prog.cellsOf 42=22:=by kernel_rfl
 have c1:prog.cellsOf 3=1:=by kernel_rfl
 have ca:prog.cellsOf 24=18:=by kernel_rfl
 have cs1:prog.cellsOf 9=1:=by kernel_rfl
 obtain⟨hl,hf⟩:=h.struct underlying42;rw[c22]at hl;have h0:uT enc prog w 3 ((cs.drop 0).take (prog.cellsOf 3)):=l9;have U:uT enc prog w 24 ((cs.drop 1).take (prog.cellsOf 24)):=l8;have X:uT enc prog w 3 ((cs.drop 19).take (prog.cellsOf 3)):=oj;have h3:uT enc prog w 3 ((cs.drop 20).take (prog.cellsOf 3)):=hf 3 _ J;have h4:uT enc prog w 9 ((cs.drop 21).take (prog.cellsOf 9)):=hf 4 _ J;rw[ca]at U;rw[c1]at h0 X h3;rw[cs1]at h4;obtain⟨kd,e0⟩:=xR h0;obtain⟨ad,i16,e1⟩:=KX U;obtain⟨fp,e2⟩:=xR X;obtain⟨po,e3⟩:=xR h3;obtain⟨dt,e4,dl⟩:=h4.string underlying9;refine⟨⟨kd,ad,fp,po,dt⟩,?_,i16,dl⟩;show cs.drop 0=_;rw[wF cs 0 1 1 J,e0,wF cs 1 18 19 J,e1,wF cs 19 1 20 J,e2,wF cs 20 1 21 J,e3,wF cs 21 1 22 J,e4,List.drop_of_length_le I];rfl
theorem aam(h:uT enc prog w 56 cs):∃A c l,cs=[.slice A (l:List Ev).length c]/\Sz w A l/\l.length<=17592186044416:=by
 have c9:prog.cellsOf 42=22:=by kernel_rfl
 have b9:prog.bytesOf 42=72:=by kernel_rfl
 obtain⟨A,n,c,rfl,hnc,_,hby,hn⟩:=h.slice underlying56 (by rw[c9];omega);rw[b9]at hby;by_cases agE:0<n
 ·
  obtain⟨b,off,rfl,F,hi⟩:=hn agE;rw[c9]at hi;have key:∀i,i<n->∃e:Ev,w.rangeAt b (off+i*22) (xA e)/\adw e:=by
   intro i hin;obtain⟨cs',hl,hc,hs⟩:=hi i hin;obtain⟨e,rfl,U,X⟩:=SB hs;refine⟨e,fun j v hv=>?_,U,X⟩;have hj:j<22:=by rw[<-hl];exact(List.getElem?_eq_some_iff.1 hv).1
   rw[hc j hj];exact hv
  haveI:Inhabited Ev:=⟨⟨0,uV.zero,0,0,[]⟩⟩
  obtain⟨f,hf⟩:=Deep.choose_lt key;refine⟨some ⟨b,off,none⟩,c,(List.range n).map f,ap,⟨fun e he=>?_,fun _=>⟨b,off,J,F,fun i hin=>?_⟩⟩,az⟩
  ·obtain⟨i,hi,rfl⟩:=List.mem_map.1 he;exact(hf i (List.mem_range.1 hi)).2
  ·have ak4:i<n:=mQ;simpa using(hf i ak4).1
 ·obtain rfl:n=0:=I;exact⟨A,c,[],J,⟨ap,fun h=>absurd h ap⟩,ap⟩
end
open Go.RowKit
theorem abO:(prog.info? 42).map (·.size)=some 22:=by kernel_rfl
def EU(l:List Ev):Nat:=(l.map fun e=>e.data.length).sum
theorem On(l:List Ev)(k:Nat)(h:k<l.length):EU (l.take (k+1))=EU (l.take k)+l[k].data.length:=by
 unfold EU;rw[List.take_succ_eq_append_getElem h,List.map_append,List.sum_append];simp
theorem VM(l:List Ev)(k:Nat):EU (l.take k)<=EU l:=by
 have h:=List.take_append_drop k l;have e:EU l=EU (l.take k)+EU (l.drop k):=by
  conv=>lhs;rw[<-h]
  unfold EU;rw[List.map_append,List.sum_append]
 omega
def adx(l:List Ev)(most:Nat)(w:World)(e:Ending)(w':World):Prop:=∃b,e= .returned (.bool b)/\(b=true->l.length<=most/\EU l<=20000)/\al w w'
theorem Xv(A:Option Addr)(c:Nat)(l:List Ev)(most:Nat)(w:World)(hA:Sz w A l)(hl:l.length<=17592186044416):
  Calls prog 23 #[.slice A l.length c,.int .i64 most] w (adx l most w):=by
 go_enter func23,ntmps23;go_wp2_with fail;go_loopw[5,6] (fun nv iv wr=>∃k:Nat,k<=l.length/\k<=most/\iv= .int .i64 k/\nv= .int .i64 (EU (l.take k):Nat)/\EU (l.take k)<=20000/\al w wr) (fun _ iv _=>l.length-(intOf iv).toNat)
 case atStart=>exact⟨0,Nat.zero_le _,Nat.zero_le _,J,J,by simp[EU],Below.refl _ _⟩
 obtain⟨k,O,hkm,rfl,rfl,ht,hW⟩:=hrel;by_cases Hh:k<l.length
 case pos=>
  have tQ:(k:Int)<l.length:=I;obtain⟨ba,oa,hA1,la1,ra,hev⟩:=hA.ud k Hh;subst hA1;have E21:(xA l[k])[21]?=some (.string (bs l[k].data)):=z7 hev.1 2;have c21:wr.cell? ⟨ba,oa+k*22+21,none⟩=some (.string (bs l[k].data)):=(hW.cell (p:=⟨ba,oa+k*22+21,none⟩) la1).trans (ra 21 _ E21);have hdl:l[k].data.length<=140737488355328:=hev.2;have HT:=Y (On l k Hh);have IX:=fun W=>Vq (ba:=ba) (oa:=oa) (c:=c) underlying56 abO I Hh W
  clear ra hev E21;generalize EU (l.take k)=n at*;generalize l[k].data=dt at*;by_cases hm:k<most
  case neg=>have hm':(most:Int)<=k:=I;clear hm HT;exact th
  have hm':¬(most:Int)<=k:=I;by_cases F:n+dt.length<=20000
  case neg=>have hb':(20000:Int)<(n:Int)+dt.length:=I;clear F HT;exact th
  have hb':¬(20000:Int)<(n:Int)+dt.length:=I;go_wp2_with fail;go_roundw
  case rel=>exact⟨k+1,I,I,fU,(by rw[HT.out];go_num),(by rw[HT.out];omega),hW⟩
  case measure=>simp[intOf];omega
 obtain rfl:k=l.length:=I;have tQ:¬(l.length:Int)<l.length:=I;rw[List.take_of_length_le (Nat.le_refl _)]at ht;have HT:=Y ht;clear ht;go_wp2_with fail;go_ret;exact⟨true,J,fun _=>⟨hkm,HT.out⟩,hW⟩
end Go.Proofs.YthnbcmlnpdabhaaGreat
