/-
  Arguments of layer 34's laws:what the reading of a config,and of a task,says of its cells.
-/
import Derived.Test.YtakkipnmpmobbaaGreatOpenXq
import Derived.Test.YtakkipnmpmobbaaGreatLFq
namespace Go.Proofs.YtakkipnmpmobbaaGreat
open _root_.Go.Proofs.Tryz
open Go.ChangeShapes Go.WideShapes Go.ChangeAt Go.RowKit
set_option maxRecDepth 100000
set_option linter.unusedVariables false
set_option linter.unusedSimpArgs false
section
variable {H:Type} {enc:TypeId×Value->H} {w:World} {cs:List Value}
theorem adX(h:sj enc prog w 84 cs):∃a b c d,cs=[.bool a,.bool b,.bool c,.bool d]:=by
 have c4:prog.cellsOf 84=4:=by kernel_rfl
 have c1:prog.cellsOf 4=1:=by kernel_rfl
 obtain⟨E,hf⟩:=h.array underlying84;rw[c4]at E;rw[c1]at hf;have key:∀(i:Nat) (hi:i<cs.length),∃b:Bool,cs[i]= .bool b:=fun i hi=>by
  obtain⟨b,e⟩:=z9 (hf i Y);rw[Nat.mul_one]at e;exact⟨b,ad2 hi e⟩
 match cs,E,key with
 |[x,y,z,t],_,key=>obtain⟨a,ha⟩:=key 0 ar;obtain⟨b,Z⟩:=key 1 ar;obtain⟨c,hc⟩:=key 2 ar;obtain⟨d,hd⟩:=key 3 ar;simp at ha Z hc hd;exact⟨a,b,c,d,by rw[ha,Z,hc,hd]⟩
theorem abT(h:sj enc prog w 86 cs):∃s:Src,uK cs s:=by
 have c5:prog.cellsOf 86=5:=by kernel_rfl
 have c1:prog.cellsOf 3=1:=by kernel_rfl
 have c4:prog.cellsOf 84=4:=by kernel_rfl
 obtain⟨E,hf⟩:=h.struct underlying86;rw[c5]at E;have h0:sj enc prog w 3 ((cs.drop 0).take (prog.cellsOf 3)):=jK;have U:sj enc prog w 84 ((cs.drop 1).take (prog.cellsOf 84)):=jJ;rw[c1]at h0;rw[c4]at U;obtain⟨k,e0⟩:=uS h0;obtain⟨a,b,c,d,e1⟩:=adX U;refine⟨⟨k,a,b,c,d⟩,?_⟩;show cs.drop 0=_;rw[tu cs 0 1 1 I,e0,tu cs 1 4 5 I,e1,List.drop_of_length_le Y];rfl
theorem abU(h:sj enc prog w 77 cs):∃s:He,wG cs s:=by
 have c3:prog.cellsOf 77=3:=by kernel_rfl
 have c1:prog.cellsOf 3=1:=by kernel_rfl
 have cn:prog.cellsOf 23=1:=by kernel_rfl
 obtain⟨E,hf⟩:=h.struct underlying77;rw[c3]at E;have h0:sj enc prog w 23 ((cs.drop 0).take (prog.cellsOf 23)):=jK;have U:sj enc prog w 3 ((cs.drop 1).take (prog.cellsOf 3)):=jJ;have F:sj enc prog w 3 ((cs.drop 2).take (prog.cellsOf 3)):=lE;rw[cn]at h0;rw[c1]at U F;obtain⟨A,c,n,e0,-⟩:=DQ underlying23 h0;obtain⟨po,e1⟩:=uS U;obtain⟨pr,e2⟩:=uS F;refine⟨⟨n.length,po,pr⟩,A,c,?_⟩;show cs.drop 0=_;rw[tu cs 0 1 1 I,e0,tu cs 1 1 2 I,e1,tu cs 2 1 3 I,e2,List.drop_of_length_le Y];rfl
theorem abV(h:sj enc prog w 74 cs):∃x:xC,yY w cs x:=by
 have c19:prog.cellsOf 74=19:=by kernel_rfl
 have ca:prog.cellsOf 67=18:=by kernel_rfl
 have cn:prog.cellsOf 26=1:=by kernel_rfl
 obtain⟨E,hf⟩:=h.struct underlying74;rw[c19]at E;have h0:sj enc prog w 67 ((cs.drop 0).take (prog.cellsOf 67)):=jK;have U:sj enc prog w 26 ((cs.drop 18).take (prog.cellsOf 26)):=jJ;rw[ca]at h0;rw[cn]at U;obtain⟨a,ha,e0⟩:=EG h0;obtain⟨A,c,ns,e1,hN,-⟩:=Rw U;refine⟨⟨a,ns⟩,A,c,?_,ha,hN⟩;exact pI
instance:Inhabited xC:=⟨⟨sg.zero,[]⟩⟩
instance:Inhabited Src:=⟨⟨0,false,false,false,false⟩⟩
instance:Inhabited He:=⟨⟨0,0,0⟩⟩
theorem Nt(h:sj enc prog w 22 cs):∃A c l,cs=[.slice A (l:List xC).length c]/\wH w 19 (yY w) A l/\l.length<=17592186044416:=
 yo underlying22 (k:=19) (by kernel_rfl) K (by_:=56) (by kernel_rfl) K (yY w) (fun cs' _ hs=>abV hs) h
theorem YB(h:sj enc prog w 30 cs):∃A c l,cs=[.slice A (l:List Src).length c]/\wH w 5 uK A l/\l.length<=17592186044416:=
 yo underlying30 (k:=5) (by kernel_rfl) K (by_:=16) (by kernel_rfl) K uK (fun cs' _ hs=>abT hs) h
theorem YC(h:sj enc prog w 31 cs):∃A c l,cs=[.slice A (l:List He).length c]/\wH w 3 wG A l/\l.length<=17592186044416:=
 yo underlying31 (k:=3) (by kernel_rfl) K (by_:=40) (by kernel_rfl) K wG (fun cs' _ hs=>abU hs) h
theorem abW(h:sj enc prog w 33 cs):∃(rc:List Value) (r:Rs) (Ah As Asv:Option Addr) (ch cS csv:Nat) (hs:List xC) (ss:List Src) (vs:List He),cs=rc++[Value.slice Ah hs.length ch,Value.slice As ss.length cS,Value.slice Asv vs.length csv]/\yc w rc r/\wH w 19 (yY w) Ah hs/\wH w 5 uK As ss/\wH w 3 wG Asv vs/\hs.length<=17592186044416/\ss.length<=17592186044416/\vs.length<=17592186044416:=by
 have c13:prog.cellsOf 33=13:=by kernel_rfl
 have cr:prog.cellsOf 29=10:=by kernel_rfl
 have c1:prog.cellsOf 22=1:=by kernel_rfl
 have c2:prog.cellsOf 30=1:=by kernel_rfl
 have c3:prog.cellsOf 31=1:=by kernel_rfl
 obtain⟨E,hf⟩:=h.struct underlying33;rw[c13]at E;have h0:sj enc prog w 29 ((cs.drop 0).take (prog.cellsOf 29)):=jK;have U:sj enc prog w 22 ((cs.drop 10).take (prog.cellsOf 22)):=jJ;have F:sj enc prog w 30 ((cs.drop 11).take (prog.cellsOf 30)):=lE;have h3:sj enc prog w 31 ((cs.drop 12).take (prog.cellsOf 31)):=hf 3 _ I;rw[cr]at h0;rw[c1]at U;rw[c2]at F;rw[c3]at h3;obtain⟨r,hr⟩:=adh h0;obtain⟨Ah,ch,hs,e1,r1,l1⟩:=Nt U;obtain⟨As,cS,ss,e2,r2,l2⟩:=YB F;obtain⟨Asv,csv,vs,e3,r3,l3⟩:=YC h3;obtain⟨rc,hrc⟩:∃rc,(cs.drop 0).take 10=rc:=gh;rw[hrc]at hr;refine⟨rc,r,Ah,As,Asv,ch,cS,csv,hs,ss,vs,?_,hr,r1,r2,r3,l1,l2,l3⟩;show cs.drop 0=_;rw[tu cs 0 10 10 I,hrc,tu cs 10 1 11 I,e1,tu cs 11 1 12 I,e2,tu cs 12 1 13 I,e3,List.drop_of_length_le Y];rfl
theorem SB(h:sj enc prog w 58 cs):∃(rc:List Value) (r:Rs) (Ah As Asv:Option Addr) (ch cS csv:Nat) (hs:List xC) (ss:List Src) (vs:List He) (s:List UInt8) (fam turn:Int) (Ad:Option Addr) (cd:Nat) (ds:List Int),cs=Fu (rc++[Value.slice Ah hs.length ch,Value.slice As ss.length cS,Value.slice Asv vs.length csv]) s fam turn (.slice Ad ds.length cd)/\yc w rc r/\wH w 19 (yY w) Ah hs/\wH w 5 uK As ss/\wH w 3 wG Asv vs/\hs.length<=17592186044416/\ss.length<=17592186044416/\vs.length<=17592186044416/\aa7 w Ad ds:=by
 have c17:prog.cellsOf 58=17:=by kernel_rfl
 have cc:prog.cellsOf 33=13:=by kernel_rfl
 have c1:prog.cellsOf 3=1:=by kernel_rfl
 have cs1:prog.cellsOf 9=1:=by kernel_rfl
 have cd_:prog.cellsOf 56=1:=by kernel_rfl
 obtain⟨E,hf⟩:=h.struct underlying58;rw[c17]at E;have h0:sj enc prog w 33 ((cs.drop 0).take (prog.cellsOf 33)):=jK;have U:sj enc prog w 9 ((cs.drop 13).take (prog.cellsOf 9)):=jJ;have F:sj enc prog w 3 ((cs.drop 14).take (prog.cellsOf 3)):=lE;have h3:sj enc prog w 3 ((cs.drop 15).take (prog.cellsOf 3)):=hf 3 _ I;have h4:sj enc prog w 56 ((cs.drop 16).take (prog.cellsOf 56)):=hf 4 _ I;rw[cc]at h0;rw[cs1]at U;rw[c1]at F h3;rw[cd_]at h4;obtain⟨rc,r,Ah,As,Asv,ch,cS,csv,hs,ss,vs,e0,hr,r1,r2,r3,l1,l2,l3⟩:=abW h0;obtain⟨s,e1,-⟩:=U.string underlying9;obtain⟨fam,e2⟩:=uS F;obtain⟨turn,e3⟩:=uS h3;obtain⟨Ad,cd,ds,e4,hD⟩:=XY h4;refine⟨rc,r,Ah,As,Asv,ch,cS,csv,hs,ss,vs,s,fam,turn,Ad,cd,ds,?_,hr,r1,r2,r3,l1,l2,l3,hD⟩;show cs.drop 0=_;rw[tu cs 0 13 13 I,e0,tu cs 13 1 14 I,e1,tu cs 14 1 15 I,e2,tu cs 15 1 16 I,e3,tu cs 16 1 17 I,e4,List.drop_of_length_le Y];rfl
end
end Go.Proofs.YtakkipnmpmobbaaGreat
