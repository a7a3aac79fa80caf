/-
  Arguments of layer 29's laws:what the reading of a task says of its cells.
-/
import Derived.Test.YthnbcmlnpdabhaaGreatILz
namespace Go.Proofs.YthnbcmlnpdabhaaGreat
open _root_.Go.Proofs.Tryz
open Go.ChangeShapes Go.WideShapes Go.ChangeAt Go.RowKit
set_option maxRecDepth 100000
set_option linter.unusedVariables false
set_option linter.unusedSimpArgs false
section
variable {H:Type} {enc:TypeId×Value->H} {w:World} {cs:List Value}
theorem Fz{α:Type}[Inhabited α]{t e:TypeId}{k by_:Nat}(ht:prog.underlying t=some (.slice e))(hc:prog.cellsOf e=k)(O:0<k)(F:prog.bytesOf e=by_)(hby:8<=by_)(R:List Value->α->Prop)(key:∀cs',cs'.length=k->uT enc prog w e cs'->∃x,R cs' x)
  (h:uT enc prog w t cs):∃A c l,cs=[.slice A (l:List α).length c]/\LIn w k R A l/\l.length<=17592186044416:=by
 obtain⟨A,n,c,rfl,hnc,_,axn,hn⟩:=h.slice ht (by rw[hc];exact O);rw[F]at axn;have hn8:n*8<=n*by_:=Nat.mul_le_mul_left _ hby;by_cases agE:0<n
 ·
  obtain⟨b,off,rfl,hbl,hi⟩:=hn agE;rw[hc]at hi;have awf:∀i,i<n->∃x:α,∃cs',w.rangeAt b (off+i*k) cs'/\R cs' x:=by
   intro i hin;obtain⟨cs',hl,hc',hs⟩:=hi i hin;obtain⟨x,hx⟩:=key cs' hl hs;refine⟨x,cs',fun j v hv=>?_,hx⟩;have hj:j<k:=by rw[<-hl];exact(List.getElem?_eq_some_iff.1 hv).1
   rw[hc' j hj];exact hv
  obtain⟨f,hf⟩:=Deep.choose_lt awf;refine⟨some ⟨b,off,none⟩,c,(List.range n).map f,ap,fun _=>⟨b,off,J,hbl,fun i hin=>?_⟩,az⟩;have ak4:i<n:=mQ;obtain⟨cs',U,X⟩:=hf i ak4;exact⟨cs',U,fW⟩
 ·obtain rfl:n=0:=I;exact⟨A,c,[],J,fun h=>absurd h ap,ap⟩
instance:Inhabited uV:=⟨uV.zero⟩
theorem Xy(h:uT enc prog w 65 cs):∃A c l,cs=[.slice A (l:List uV).length c]/\ac3 w A l/\l.length<=17592186044416:=
 Fz underlying65 (k:=18) (by kernel_rfl) ax (by_:=32) (by kernel_rfl) ax Cl (fun cs' _ hs=>by obtain⟨a,U,X⟩:=KX hs;exact⟨a,X,U⟩) h
theorem abW(h:uT enc prog w 236 cs):∃p:uV×Int,Pk cs p:=by
 have c19:prog.cellsOf 236=19:=by kernel_rfl
 have c1:prog.cellsOf 3=1:=by kernel_rfl
 have ca:prog.cellsOf 24=18:=by kernel_rfl
 obtain⟨hl,hf⟩:=h.struct underlying236;rw[c19]at hl;have h0:uT enc prog w 24 ((cs.drop 0).take (prog.cellsOf 24)):=l9;have U:uT enc prog w 3 ((cs.drop 18).take (prog.cellsOf 3)):=l8;rw[ca]at h0;rw[c1]at U;obtain⟨a,ha,e0⟩:=KX h0;obtain⟨n,e1⟩:=xR U;refine⟨(a,n),?_,ha⟩;show cs.drop 0=_;rw[wF cs 0 18 18 J,e0,wF cs 18 1 19 J,e1,List.drop_of_length_le I];rfl
theorem aao(h:uT enc prog w 67 cs):∃A c l,cs=[.slice A (l:List (uV×Int)).length c]/\ac5 w A l/\l.length<=17592186044416:=
 Fz underlying67 (k:=19) (by kernel_rfl) ax (by_:=40) (by kernel_rfl) ax Pk (fun cs' _ hs=>abW hs) h
theorem aap(h:uT enc prog w 66 cs):∃A c ls,cs=[.slice A (ls:List (List (List UInt8))).length c]/\Hl w A ls/\ls.length<=17592186044416:=by
 obtain⟨A,c,l,U,X,h3⟩:=Fz (α:=List (List UInt8)) underlying66 (k:=1) (by kernel_rfl) ax (by_:=24) (by kernel_rfl) ax (fun cs' n=>∃A c,cs'=[.slice A n.length c]/\xj w A c n) (fun cs' _ hs=>by
  obtain⟨Ai,ci,l,rfl,hR⟩:=KI underlying26 hs;exact⟨l,Ai,ci,J,hR⟩) h
 refine⟨A,c,l,U,fun hp=>?_,h3⟩;obtain⟨b,off,k1,k2,k3⟩:=X hp;refine⟨b,off,k1,k2,fun i hi=>?_⟩;obtain⟨cs',r1,Ai,ci,rfl,hR⟩:=k3 i hi;refine⟨Ai,ci,?_,hR⟩;have:=r1 0 _ J;simpa using this
theorem Xz(h:uT enc prog w 70 cs):∃A c l,cs=[.slice A (l:List Int).length c]/\Oo w A l:=by
 obtain⟨A,c,l,U,X,h3⟩:=Fz (α:=Int) underlying70 (k:=1) (by kernel_rfl) ax (by_:=8) (by kernel_rfl) ax (fun cs' n=>cs'=[.int .i64 n]) (fun cs' _ hs=>by
  obtain⟨n,rfl⟩:=xR hs;exact⟨n,J⟩) h
 refine⟨A,c,l,U,fun hp=>?_⟩;obtain⟨b,off,k1,k2,k3⟩:=X hp;refine⟨b,off,k1,k2,fun j v hv=>?_⟩;unfold Pj at hv;rw[List.getElem?_map]at hv;obtain⟨x,hx,rfl⟩:=Option.map_eq_some_iff.1 hv;obtain⟨hj,hx⟩:=List.getElem?_eq_some_iff.1 hx;obtain⟨cs',r1,r2⟩:=k3 j hj;subst r2;have:=r1 0 _ J;rw[hx]at this;simpa using this
theorem abX(h:uT enc prog w 69 cs):∃r:Rs,CU w cs r:=by
 have c10:prog.cellsOf 69=10:=by kernel_rfl
 have c1:prog.cellsOf 3=1:=by kernel_rfl
 have cb:prog.cellsOf 4=1:=by kernel_rfl
 have ca:prog.cellsOf 65=1:=by kernel_rfl
 have cn:prog.cellsOf 66=1:=by kernel_rfl
 have cp:prog.cellsOf 67=1:=by kernel_rfl
 obtain⟨hl,hf⟩:=h.struct underlying69;rw[c10]at hl;have h0:uT enc prog w 65 ((cs.drop 0).take (prog.cellsOf 65)):=l9;have U:uT enc prog w 66 ((cs.drop 1).take (prog.cellsOf 66)):=l8;have X:uT enc prog w 67 ((cs.drop 2).take (prog.cellsOf 67)):=oj;have h3:uT enc prog w 3 ((cs.drop 3).take (prog.cellsOf 3)):=hf 3 _ J;have h4:uT enc prog w 3 ((cs.drop 4).take (prog.cellsOf 3)):=hf 4 _ J;have h5:uT enc prog w 3 ((cs.drop 5).take (prog.cellsOf 3)):=hf 5 _ J;have h6:uT enc prog w 4 ((cs.drop 6).take (prog.cellsOf 4)):=hf 6 _ J;have h7:uT enc prog w 4 ((cs.drop 7).take (prog.cellsOf 4)):=hf 7 _ J;have h8:uT enc prog w 4 ((cs.drop 8).take (prog.cellsOf 4)):=hf 8 _ J;have h9:uT enc prog w 4 ((cs.drop 9).take (prog.cellsOf 4)):=hf 9 _ J;rw[ca]at h0;rw[cn]at U;rw[cp]at X;rw[c1]at h3 h4 h5;rw[cb]at h6 h7 h8 h9;obtain⟨A1,k1,s1,e0,r0,l0⟩:=Xy h0;obtain⟨A2,k2,s2,e1,r1,l1⟩:=aap U;obtain⟨A3,k3,s3,e2,r2,l2⟩:=aao X;obtain⟨nd,e3⟩:=xR h3;obtain⟨hS,e4⟩:=xR h4;obtain⟨att,e5⟩:=xR h5;obtain⟨ro,e6⟩:=Fe h6;obtain⟨vc,e7⟩:=Fe h7;obtain⟨si,e8⟩:=Fe h8;obtain⟨ed,e9⟩:=Fe h9;refine⟨⟨s1,s2,s3,nd,hS,att,ro,vc,si,ed⟩,A1,k1,A2,k2,A3,k3,?_,r0,r1,r2,l0,l1,l2⟩;show cs.drop 0=_;rw[wF cs 0 1 1 J,e0,wF cs 1 1 2 J,e1,wF cs 2 1 3 J,e2,wF cs 3 1 4 J,e3,wF cs 4 1 5 J,e4,wF cs 5 1 6 J,e5,wF cs 6 1 7 J,e6,wF cs 7 1 8 J,e7,wF cs 8 1 9 J,e8,wF cs 9 1 10 J,e9,List.drop_of_length_le I];rfl
theorem SI(h:uT enc prog w 72 cs):∃As rc r A c q turn ds cd,cs=GQ (.slice As (ds:List Int).length cd) (.slice A (q:Qn).name.length c) rc q turn/\CU w rc r/\xj w A c q.name/\Oo w As ds:=by
 have c15:prog.cellsOf 72=15:=by kernel_rfl
 have c1:prog.cellsOf 3=1:=by kernel_rfl
 have cr:prog.cellsOf 69=10:=by kernel_rfl
 have cq:prog.cellsOf 28=3:=by kernel_rfl
 have cd_:prog.cellsOf 70=1:=by kernel_rfl
 obtain⟨hl,hf⟩:=h.struct underlying72;rw[c15]at hl;have h0:uT enc prog w 69 ((cs.drop 0).take (prog.cellsOf 69)):=l9;have U:uT enc prog w 28 ((cs.drop 10).take (prog.cellsOf 28)):=l8;have X:uT enc prog w 3 ((cs.drop 13).take (prog.cellsOf 3)):=oj;have h3:uT enc prog w 70 ((cs.drop 14).take (prog.cellsOf 70)):=hf 3 _ J;rw[cr]at h0;rw[cq]at U;rw[c1]at X;rw[cd_]at h3;obtain⟨r,hr⟩:=abX h0;obtain⟨q,A,c,e1,hN⟩:=ac0 U;obtain⟨turn,e2⟩:=xR X;obtain⟨As,cd,ds,e3,hD⟩:=Xz h3;obtain⟨rc,hrc⟩:∃rc,(cs.drop 0).take 10=rc:=gp;rw[hrc]at hr;refine⟨As,rc,r,A,c,q,turn,ds,cd,?_,hr,hN,hD⟩;show cs.drop 0=_;rw[wF cs 0 10 10 J,hrc,wF cs 10 3 13 J,e1,wF cs 13 1 14 J,e2,wF cs 14 1 15 J,e3,List.drop_of_length_le I];rfl
end
end Go.Proofs.YthnbcmlnpdabhaaGreat
