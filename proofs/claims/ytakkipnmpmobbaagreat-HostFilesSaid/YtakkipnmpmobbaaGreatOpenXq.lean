/-
  Arguments of layer 29's laws:what the reading of a task says of its cells.
-/
import Derived.Test.YtakkipnmpmobbaaGreatILq
namespace Go.Proofs.YtakkipnmpmobbaaGreat
open _root_.Go.Proofs.Tryz
open Go.ChangeShapes Go.WideShapes Go.ChangeAt Go.RowKit
set_option maxRecDepth 100000
set_option linter.unusedVariables false
set_option linter.unusedSimpArgs false
section
variable {H:Type} {enc:TypeId×Value->H} {w:World} {cs:List Value}
theorem yo{α:Type}[Inhabited α]{t e:TypeId}{k by_:Nat}(ht:prog.underlying t=some (.slice e))(hc:prog.cellsOf e=k)(O:0<k)(Z:prog.bytesOf e=by_)(hby:8<=by_)(R:List Value->α->Prop)(key:∀cs',cs'.length=k->sj enc prog w e cs'->∃x,R cs' x)
  (h:sj enc prog w t cs):∃A c l,cs=[.slice A (l:List α).length c]/\wH w k R A l/\l.length<=17592186044416:=by
 obtain⟨A,n,c,rfl,hnc,_,aBR,hn⟩:=h.slice ht (by rw[hc];exact O);rw[Z]at aBR;have hn8:n*8<=n*by_:=Nat.mul_le_mul_left _ hby;by_cases aid:0<n
 ·
  obtain⟨b,off,rfl,hbl,hi⟩:=hn aid;rw[hc]at hi;have aAq:∀i,i<n->∃x:α,∃cs',w.rangeAt b (off+i*k) cs'/\R cs' x:=by
   intro i hin;obtain⟨cs',E,hc',hs⟩:=hi i hin;obtain⟨x,hx⟩:=key cs' E hs;refine⟨x,cs',fun j v hv=>?_,hx⟩;have hj:j<k:=by rw[<-E];exact(List.getElem?_eq_some_iff.1 hv).1
   rw[hc' j hj];exact hv
  obtain⟨f,hf⟩:=Deep.choose_lt aAq;refine⟨some ⟨b,off,none⟩,c,(List.range n).map f,ar,fun _=>⟨b,off,I,hbl,fun i hin=>?_⟩,aB⟩;have anC:i<n:=lk;obtain⟨cs',U,F⟩:=hf i anC;exact⟨cs',U,fT⟩
 ·obtain rfl:n=0:=Y;exact⟨A,c,[],I,fun h=>absurd h ar,ar⟩
instance:Inhabited sg:=⟨sg.zero⟩
theorem XX(h:sj enc prog w 25 cs):∃A c l,cs=[.slice A (l:List sg).length c]/\Ua w A l/\l.length<=17592186044416:=
 yo underlying25 (k:=18) (by kernel_rfl) K (by_:=32) (by kernel_rfl) K xH (fun cs' _ hs=>by obtain⟨a,U,F⟩:=EG hs;exact⟨a,F,U⟩) h
theorem adg(h:sj enc prog w 112 cs):∃p:sg×Int,Md cs p:=by
 have c19:prog.cellsOf 112=19:=by kernel_rfl
 have c1:prog.cellsOf 3=1:=by kernel_rfl
 have ca:prog.cellsOf 67=18:=by kernel_rfl
 obtain⟨E,hf⟩:=h.struct underlying112;rw[c19]at E;have h0:sj enc prog w 67 ((cs.drop 0).take (prog.cellsOf 67)):=jK;have U:sj enc prog w 3 ((cs.drop 18).take (prog.cellsOf 3)):=jJ;rw[ca]at h0;rw[c1]at U;obtain⟨a,ha,e0⟩:=EG h0;obtain⟨n,e1⟩:=uS U;refine⟨(a,n),?_,ha⟩;exact pI
theorem aa8(h:sj enc prog w 27 cs):∃A c l,cs=[.slice A (l:List (sg×Int)).length c]/\acy w A l/\l.length<=17592186044416:=
 yo underlying27 (k:=19) (by kernel_rfl) K (by_:=40) (by kernel_rfl) K Md (fun cs' _ hs=>adg hs) h
theorem Rw(h:sj enc prog w 26 cs):∃A c ls,cs=[.slice A (ls:List (List (List UInt8))).length c]/\Cb w A ls/\ls.length<=17592186044416:=by
 obtain⟨A,c,l,U,F,h3⟩:=yo (α:=List (List UInt8)) underlying26 (k:=1) (by kernel_rfl) K (by_:=24) (by kernel_rfl) K (fun cs' n=>∃A c,cs'=[.slice A n.length c]/\wA w A c n) (fun cs' _ hs=>by
  obtain⟨Ai,ci,l,rfl,hR⟩:=DQ underlying24 hs;exact⟨l,Ai,ci,I,hR⟩) h
 refine⟨A,c,l,U,fun hp=>?_,h3⟩;obtain⟨b,off,k1,k2,k3⟩:=F hp;refine⟨b,off,k1,k2,fun i hi=>?_⟩;obtain⟨cs',r1,Ai,ci,rfl,hR⟩:=k3 i hi;refine⟨Ai,ci,?_,hR⟩;have:=r1 0 _ I;simpa using this
theorem XY(h:sj enc prog w 56 cs):∃A c l,cs=[.slice A (l:List Int).length c]/\aa7 w A l:=by
 obtain⟨A,c,l,U,F,h3⟩:=yo (α:=Int) underlying56 (k:=1) (by kernel_rfl) K (by_:=8) (by kernel_rfl) K (fun cs' n=>cs'=[.int .i64 n]) (fun cs' _ hs=>by
  obtain⟨n,rfl⟩:=uS hs;exact⟨n,I⟩) h
 refine⟨A,c,l,U,fun hp=>?_⟩;obtain⟨b,off,k1,k2,k3⟩:=F hp;refine⟨b,off,k1,k2,fun j v hv=>?_⟩;unfold Bi at hv;rw[List.getElem?_map]at hv;obtain⟨x,hx,rfl⟩:=Option.map_eq_some_iff.1 hv;obtain⟨hj,hx⟩:=List.getElem?_eq_some_iff.1 hx;obtain⟨cs',r1,r2⟩:=k3 j hj;subst r2;have:=r1 0 _ I;rw[hx]at this;simpa using this
theorem adh(h:sj enc prog w 29 cs):∃r:Rs,yc w cs r:=by
 have c10:prog.cellsOf 29=10:=by kernel_rfl
 have c1:prog.cellsOf 3=1:=by kernel_rfl
 have cb:prog.cellsOf 4=1:=by kernel_rfl
 have ca:prog.cellsOf 25=1:=by kernel_rfl
 have cn:prog.cellsOf 26=1:=by kernel_rfl
 have cp:prog.cellsOf 27=1:=by kernel_rfl
 obtain⟨E,hf⟩:=h.struct underlying29;rw[c10]at E;have h0:sj enc prog w 25 ((cs.drop 0).take (prog.cellsOf 25)):=jK;have U:sj enc prog w 26 ((cs.drop 1).take (prog.cellsOf 26)):=jJ;have F:sj enc prog w 27 ((cs.drop 2).take (prog.cellsOf 27)):=lE;have h3:sj enc prog w 3 ((cs.drop 3).take (prog.cellsOf 3)):=hf 3 _ I;have h4:sj enc prog w 3 ((cs.drop 4).take (prog.cellsOf 3)):=hf 4 _ I;have h5:sj enc prog w 3 ((cs.drop 5).take (prog.cellsOf 3)):=hf 5 _ I;have h6:sj enc prog w 4 ((cs.drop 6).take (prog.cellsOf 4)):=hf 6 _ I;have h7:sj enc prog w 4 ((cs.drop 7).take (prog.cellsOf 4)):=hf 7 _ I;have h8:sj enc prog w 4 ((cs.drop 8).take (prog.cellsOf 4)):=hf 8 _ I;have h9:sj enc prog w 4 ((cs.drop 9).take (prog.cellsOf 4)):=hf 9 _ I;rw[ca]at h0;rw[cn]at U;rw[cp]at F;rw[c1]at h3 h4 h5;rw[cb]at h6 h7 h8 h9;obtain⟨A1,k1,s1,e0,r0,l0⟩:=XX h0;obtain⟨A2,k2,s2,e1,r1,l1⟩:=Rw U;obtain⟨A3,k3,s3,e2,r2,l2⟩:=aa8 F;obtain⟨nd,e3⟩:=uS h3;obtain⟨tmo,e4⟩:=uS h4;obtain⟨att,e5⟩:=uS h5;obtain⟨ro,e6⟩:=z9 h6;obtain⟨vc,e7⟩:=z9 h7;obtain⟨si,e8⟩:=z9 h8;obtain⟨ed,e9⟩:=z9 h9;refine⟨⟨s1,s2,s3,nd,tmo,att,ro,vc,si,ed⟩,A1,k1,A2,k2,A3,k3,?_,r0,r1,r2,l0,l1,l2⟩;show cs.drop 0=_;rw[tu cs 0 1 1 I,e0,tu cs 1 1 2 I,e1,tu cs 2 1 3 I,e2,tu cs 3 1 4 I,e3,tu cs 4 1 5 I,e4,tu cs 5 1 6 I,e5,tu cs 6 1 7 I,e6,tu cs 7 1 8 I,e7,tu cs 8 1 9 I,e8,tu cs 9 1 10 I,e9,List.drop_of_length_le Y];rfl
end
end Go.Proofs.YtakkipnmpmobbaaGreat
