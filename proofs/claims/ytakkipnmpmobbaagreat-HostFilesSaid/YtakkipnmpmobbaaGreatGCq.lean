/-
  Layer 9 (addr),as far as records want it:addresses as cells;'==';Check,and the reference's.
-/
import Derived.Test.YtakkipnmpmobbaaGreatGBq
namespace Go.Proofs.YtakkipnmpmobbaaGreat
open _root_.Go.Proofs.Tryz
set_option maxHeartbeats 8000000
open Go.RowKit
set_option maxRecDepth 100000
set_option linter.unusedVariables false
structure sg where
 fam:Int
 ip:List UInt8
 az:Int
deriving DecidableEq
def sg.cells(a:sg):List Value:=.int .i64 a.fam::(sN a.ip++[.int .i64 a.az])
def sg.zero:sg:=⟨0,List.replicate 16 0,0⟩
theorem sg.rY(a:sg)(h:a.ip.length=16):a.cells.length=18:=by simp[sg.cells,sI,h]
theorem YP(l:List UInt8):∀v∈sN l,v.oneCell'=true:=by
 intro v hv;obtain⟨b,_,rfl⟩:=List.mem_map.1 hv;rfl
theorem sg.tm(a:sg):∀v∈a.cells,v.oneCell'=true:=by
 intro v hv;rcases List.mem_cons.1 hv with rfl|hv
 ·rfl
 ·
  rcases List.mem_append.1 hv with hv|hv
  ·exact YP _ v hv
  ·rw[List.mem_singleton]at hv;subst hv;rfl
theorem ab3(w:World):(sizeOf 5).run prog w= .ok 1 w:=by kernel_rfl
theorem ab4(w:World):(sizeOf 65).run prog w= .ok 16 w:=by kernel_rfl
theorem Py(l:List UInt8):sN l=(l.map fun b=>(b.toNat:Int)).map (Value.int .u8):=by simp[sN,List.map_map,Function.comp_def]
theorem Cm:∀(a b:List UInt8),((a.map fun x=>(x.toNat:Int))==(b.map fun x=>(x.toNat:Int)))=decide (a=b)
 |[],[]=>rfl
 |x::a,y::b=>by
  have ih:=Cm a b;simp only[List.map_cons,List.cons_beq_cons,ih,List.cons.injEq];have:((x.toNat:Int)==(y.toNat:Int))=decide (x=y):=by
   by_cases h:x=y
   ·subst h;simp
   ·
    have:¬x.toNat=y.toNat:=fun e=>h (UInt8.toNat_inj.1 e)
    simp[h];omega
  rw[this];simp
 |[],_::_=>rfl
 |_::_,[]=>rfl
theorem Tb : (prog.fieldsOf 67).toList = [{ name := "Family", type := 3, offset := 0, embedded := false, tag := "", pkgPath := "", byteOffset := 0 }, { name := "IP", type := 65, offset := 1, embedded := false, tag := "", pkgPath := "", byteOffset := 8 }, { name := "Zone", type := 3, offset := 17, embedded := false, tag := "", pkgPath := "", byteOffset := 24 }] := by
 unfold Program.fieldsOf;rw[underlying67]
theorem sg.ab5(a:sg)(h:a.ip.length=16):(a.cells.toArray.extract 1 17)=(sN a.ip).toArray:=by
 apply Array.toList_inj.1;simp only[sg.cells,List.extract_toArray,List.toList_toArray,List.extract_eq_take_drop,List.drop_succ_cons,List.drop_zero];exact List.take_left' (by rw[sI,h])
theorem sg.Nu(a:sg)(h:a.ip.length=16):a.cells[17]?=some (.int .i64 a.az):=by
 simp[sg.cells,sI,h]
theorem Ey(a b:sg)(ha:a.ip.length=16)(Z:b.ip.length=16)(w:World):(Op.equalIn 10000 67 (.agg a.cells.toArray) (.agg b.cells.toArray)).run prog w= .ok (decide (a=b)) w:=by
 rw[run_equalIn_struct w 9999 67 _ _ (by unfold Program.fieldsOf;rw[underlying67]) (by kernel_rfl),Tb];have p0:∀(x:sg) (w:World),(part 3 x.cells.toArray 0).run prog w= .ok (.int .i64 x.fam) w:=fun x w=>by simp[part,isAgg,run_underlying underlying3,sg.cells]
 have p1:∀(x:sg),x.ip.length=16->∀(w:World),(part 65 x.cells.toArray 1).run prog w= .ok (.agg (sN x.ip).toArray) w:=fun x hx w=>by
  simp only[part,isAgg,Sem.run_bind,run_underlying underlying65,Result.andThen_ok,Sem.run_pure,if_true,ab4,Sem.run_ite];rw[show 1+16=17 from I,x.ab5 hx]
 have p2:∀(x:sg),x.ip.length=16->∀(w:World),(part 3 x.cells.toArray 17).run prog w= .ok (.int .i64 x.az) w:=fun x hx w=>by simp[part,isAgg,run_underlying underlying3,x.Nu hx]
 have e0:(Op.equalIn 9999 3 (.int .i64 a.fam) (.int .i64 b.fam)).run prog w= .ok (a.fam==b.fam) w:=lh;have e1:(Op.equalIn 9999 65 (.agg (sN a.ip).toArray) (.agg (sN b.ip).toArray)).run prog w= .ok (decide (a.ip=b.ip)) w:=by rw[Py,Py,zX w 9997 _ 5 16 .u8 underlying65 underlying5 ab3 _ _ (by simpa using ha) aM,Cm]
 have e2:(Op.equalIn 9999 3 (.int .i64 a.az) (.int .i64 b.az)).run prog w= .ok (a.az==b.az) w:=lh;simp only[Op.eqFields,ne_eq,String.reduceEq,not_false_eq_true,if_true,Sem.run_bind,p0,p1 a ha,p1 b Z,p2 a ha,p2 b Z,e0,e1,e2,Result.andThen_ok,Sem.run_ite,Sem.run_pure];obtain⟨fa,ia,za⟩:=a;obtain⟨fb,ib,zb⟩:=b;simp only[sg.mk.injEq];by_cases U:fa=fb<;>by_cases F:ia=ib<;>by_cases h3:za=zb<;>simp[U,F,h3]
def sg.check(a:sg):Int:=if a.fam=4 then(if a.ip.drop 4=List.replicate 12 0/\a.az=0 then 0 else 5)else if a.fam=6 then(if a.az<0\/2147483647<a.az then 4 else 0)else 10
theorem adZ{α:Type}{l:List α}(h:l.length=16):∃x0 x1 x2 x3 x4 x5 x6 x7 x8 x9 x10 x11 x12 x13 x14 x15,l=[x0,x1,x2,x3,x4,x5,x6,x7,x8,x9,x10,x11,x12,x13,x14,x15]:=by
 match l,h with
 |[x0,x1,x2,x3,x4,x5,x6,x7,x8,x9,x10,x11,x12,x13,x14,x15],_=>exact⟨x0,x1,x2,x3,x4,x5,x6,x7,x8,x9,x10,x11,x12,x13,x14,x15,I⟩
def tX(a b c d:UInt8):sg:=⟨4,[a,b,c,d,0,0,0,0,0,0,0,0,0,0,0,0],0⟩
def YQ:List Value:=sg.zero.cells
theorem uL:(prog.info? 67).map (·.size)=some 18:=by kernel_rfl
theorem N.afy(w:World)(k:Nat)(O:k=w.heap.size):N (w.alloc (.cells #[.int .i64 0,.int .u8 0,.int .u8 0,.int .u8 0,.int .u8 0,.int .u8 0,.int .u8 0,.int .u8 0,.int .u8 0,.int .u8 0,.int .u8 0,.int .u8 0,.int .u8 0,.int .u8 0,.int .u8 0,.int .u8 0,.int .u8 0,.int .i64 0] 67)) k 67 YQ:=N.uE w _ YQ k O
theorem IF(a b c d:UInt8)(w:World):Calls prog 54 #[.int .u8 (a.toNat:Int),.int .u8 (b.toNat:Int),.int .u8 (c.toNat:Int),.int .u8 (d.toNat:Int)] w (rW (.agg (tX a b c d).cells.toArray) w):=by
 go_enter func54,ntmps54;go_wp2_with(refine rF (.store 67 (.tmp 8) (.tmp 14)) I (ab I w.heap.size 0 (tX a b c d).cells (N.afy w _ I) (Nat.le_refl 18) uL (sg.tm _) ?_));intro B hb1 hg1 _;go_wp2_with fail;have hb2:N B w.heap.size 67 (tX a b c d).cells:=by simpa[YQ,sg.zero,sg.cells,tX,sN]using hb1
 refine tx Tryz.results54 w.heap.size I hb2 _ underlying67 I uL I ?_;exact rW.mk I (rE ((Below.refl _ _).alloc (Nat.le_refl _) _) hg1 ar (Nat.le_refl _))
theorem sg.Ez(x:sg)(hx:x.ip.length=16)(i:Nat)(hi:i<16):x.cells[i+1]?=some (.int .u8 ((x.ip.getD i 0).toNat:Int)):=by
 simp only[sg.cells,List.getElem?_cons_succ];rw[List.getElem?_append_left (by rw[sI,hx];exact hi),zW x.ip i Y];simp[List.getD,List.getElem?_eq_getElem (show i<x.ip.length by omega)]
theorem xN{L:List Value}{i:Nat}{v:Value}(h:L[i]?=some v):∀hi:i<L.length,L[i]'hi=v:=fun hi=>by rw[List.getElem?_eq_getElem hi]at h;exact Option.some.inj h
theorem Wk(x:sg)(hx:x.ip.length=16)(w:World):Calls prog 98 #[.agg x.cells.toArray] w (rW (.agg (tX (x.ip.getD 0 0) (x.ip.getD 1 0) (x.ip.getD 2 0) (x.ip.getD 3 0)).cells.toArray) w):=by
 have hcl:=x.rY hx;have g1:=xN (x.Ez hx 0 K);have g2:=xN (x.Ez hx 1 K);have g3:=xN (x.Ez hx 2 K);have g4:=xN (x.Ez hx 3 K);generalize x.ip.getD 0 0=a at*;generalize x.ip.getD 1 0=b at*;generalize x.ip.getD 2 0=c at*;generalize x.ip.getD 3 0=d at*;generalize x.cells=L at*;go_enter func98,ntmps98;go_wp2_with fail;refine(IF a b c d _).mono ?_;rintro _ B ⟨rfl,b1⟩;have hz:N B (w.heap.size+1) 67 YQ:=(N.afy _ _ ar).G b1 ar;have hB:ao w B:=rC (((Below.refl _ _).alloc (Nat.le_refl _) _).alloc ar _) aB b1;clear b1;go_wp2_with(refine rF (.store 67 (.tmp 2) (.tmp 15)) I (ab I (w.heap.size+1) 0 (tX a b c d).cells hz (Nat.le_refl 18) uL (sg.tm _) ?_));intro w2 hb2 hg2 _;go_wp2_with fail;have hb3:N w2 (w.heap.size+1) 67 (tX a b c d).cells:=by simpa[YQ,sg.zero,sg.cells,tX,sN]using hb2
 refine tx Tryz.results98 (w.heap.size+1) I hb3 _ underlying67 I uL I ?_;exact rW.mk I (rE hB hg2 hB.size ar)
theorem YR(x:sg)(hx:x.ip.length=16)(hf:x.fam=4):(x=tX (x.ip.getD 0 0) (x.ip.getD 1 0) (x.ip.getD 2 0) (x.ip.getD 3 0))↔(x.ip.drop 4=List.replicate 12 0/\x.az=0):=by
 obtain⟨fam,ip,az⟩:=x;simp only at hx hf;obtain⟨x0,x1,x2,x3,x4,x5,x6,x7,x8,x9,x10,x11,x12,x13,x14,x15,rfl⟩:=adZ hx;subst hf;simp[tX,List.replicate]
theorem Tc(x:sg)(hx:x.ip.length=16)(hf:x.fam=4)(w:World):Calls prog 83 #[.agg x.cells.toArray] w (rW (.int .i64 x.check) w):=by
 have hcl:=x.rY hx;have g0:∀hi:0<x.cells.length,x.cells[0]'hi= .int .i64 4:=xN (by rw[<-hf];rfl);have ahk:=Wk x hx;have h2:=Ey x (tX (x.ip.getD 0 0) (x.ip.getD 1 0) (x.ip.getD 2 0) (x.ip.getD 3 0)) hx I;have hb:=YR x hx hf;have R:x.check=if x.ip.drop 4=List.replicate 12 0/\x.az=0 then 0 else 5:=lf
 generalize tX (x.ip.getD 0 0) (x.ip.getD 1 0) (x.ip.getD 2 0) (x.ip.getD 3 0)=q at*;have hLD:∀W,Below (w.alloc (.cells x.cells.toArray 67)).heap.size (w.alloc (.cells x.cells.toArray 67)) W->(Instr.loadAt 67 (.pointer (some ⟨w.heap.size,0,none⟩))).run prog W= .ok (.agg x.cells.toArray) W:=fun W hW=>((N.new w 67 x.cells).G hW ar).tW 67 0 18 Y _ underlying67 I uL x.cells (uH Y)
 have HLD:=J hLD;have FF:=J ahk;have QQ:=J hb;have RR:=J R;clear ahk hLD hb R hf;generalize x.cells=L,q.cells=L2 at*;go_enter func83,ntmps83;go_wp2_with fail;refine vp (by kernel_rfl) (by kernel_rfl) ?_;refine tE 67 (.tmp 1) I ⟨w.heap.size,0,none⟩ I I HLD.out ?_;simp only[X];refine tE 67 (.tmp 1) I ⟨w.heap.size,0,none⟩ I I HLD.out ?_;simp only[X];refine tL 98 #[.agg L.toArray] I (fun W=>by go_simp) (fun W hW=>rW.Bc hW (FF.out W)) ?_;simp only[X];refine rK (v:=.bool (!decide (x=q))) I (fun W hW=>by go_simp) ?_;simp only[X];refine wpQuiet_nil ?_;intro w2 hB2;have hB:ao w w2:=rC ((Below.refl _ _).alloc (Nat.le_refl _) _) ar hB2;clear hB2 HLD FF h2;by_cases he:x=q
 ·
  have hr:x.check=0:=by rw[RR.out,if_pos (QQ.out.1 he)]
  have HR:=J hr;rw[decide_eq_true he];exact qF
 ·
  have hr:x.check=5:=by rw[RR.out,if_neg (fun h=>he (QQ.out.2 h))]
  have HR:=J hr;rw[decide_eq_false he];exact qF
theorem Te(x:sg)(hx:x.ip.length=16)(hf:x.fam≠4)(w:World):Calls prog 83 #[.agg x.cells.toArray] w (rW (.int .i64 x.check) w):=by
 have hcl:=x.rY hx;have g0:∀hi:0<x.cells.length,x.cells[0]'hi= .int .i64 x.fam:=xN I;have g17:∀hi:17<x.cells.length,x.cells[17]'hi= .int .i64 x.az:=kj;have hf4:(x.fam==4)=false:=lJ;by_cases h6:x.fam=6
 ·
  have h6':(x.fam==6)=true:=iw;by_cases hz:x.az<0
  ·have hr:x.check=4:=jv;have HR:=J hr;have d1:decide (x.az<0)=true:=decide_eq_true hz;generalize x.az=zn,x.fam=fm,x.cells=L at*;clear hf h6 hr;go_enter func83,ntmps83;exact mJ
  ·
   by_cases hz2:2147483647<x.az
   ·have hr:x.check=4:=jr;have HR:=J hr;have d1:decide (x.az<0)=false:=kH;have d2:decide (2147483647<x.az)=true:=decide_eq_true hz2;generalize x.az=zn,x.fam=fm,x.cells=L at*;clear hf h6 hr;go_enter func83,ntmps83;exact mJ
   ·have hr:x.check=0:=jH;have HR:=J hr;have d1:decide (x.az<0)=false:=kH;have d2:decide (2147483647<x.az)=false:=decide_eq_false hz2;generalize x.az=zn,x.fam=fm,x.cells=L at*;clear hf h6 hr;go_enter func83,ntmps83;exact mJ
 ·have h6':(x.fam==6)=false:=iw;have hr:x.check=10:=kl;have HR:=J hr;generalize x.fam=fm,x.cells=L at*;clear hf h6 hr;go_enter func83,ntmps83;exact mJ
theorem yt(x:sg)(hx:x.ip.length=16)(w:World):Calls prog 83 #[.agg x.cells.toArray] w (rW (.int .i64 x.check) w):=by
 by_cases h:x.fam=4
 ·exact Tc x hx h w
 ·exact Te x hx h w
theorem Wl(ip:List UInt8)(hx:ip.length=16)(k:Nat)(h4:4<=k)(O:k<16)(h:ip.getD k 0≠0):ip.drop 4≠List.replicate 12 0:=by
 intro e;have:=congrArg (fun l=>l[k-4]?) e;simp only[List.getElem?_drop]at this;rw[show 4+(k-4)=k by omega,List.getElem?_eq_getElem Y]at this;have F:(List.replicate 12 (0:UInt8))[k-4]?=some 0:=by rw[List.getElem?_replicate];simp;omega
 rw[F]at this;apply h;simp[List.getD,List.getElem?_eq_getElem (show k<ip.length by omega)];exact Option.some.inj this
theorem Tf(ip:List UInt8)(hx:ip.length=16)(h:∀k,4<=k->k<16->ip.getD k 0=0):ip.drop 4=List.replicate 12 0:=by
 obtain⟨x0,x1,x2,x3,x4,x5,x6,x7,x8,x9,x10,x11,x12,x13,x14,x15,rfl⟩:=adZ hx;have h4:=h 4 K K;have h5:=h 5 K K;have h6:=h 6 K K;have h7:=h 7 K K;have h8:=h 8 K K;have h9:=h 9 K K;have h10:=h 10 K K;have h11:=h 11 K K;have h12:=h 12 K K;have h13:=h 13 K K;have h14:=h 14 K K;have h15:=h 15 K K;simp only[List.getD_cons_succ,List.getD_cons_zero]at*;subst h4 h5 h6 h7 h8 h9 h10 h11 h12 h13 h14 h15;rfl
theorem Nv(x:sg)(hx:x.ip.length=16)(hf:x.fam=4)(w:World):Calls prog 32 #[.agg x.cells.toArray] w (rW (.int .i64 x.check) w):=by
 have hcl:=x.rY hx;have g0:∀hi:0<x.cells.length,x.cells[0]'hi= .int .i64 4:=xN (by rw[<-hf];rfl);have g17:∀hi:17<x.cells.length,x.cells[17]'hi= .int .i64 x.az:=kj;have gc:∀k,k<16->(w.alloc (.cells x.cells.toArray 67)).cell? ⟨w.heap.size,1+k,none⟩=some (.int .u8 ((x.ip.getD k 0).toNat:Int)):=fun k O=>by
  rw[Nat.add_comm];exact(N.new w 67 x.cells).rD (k+1) (x.Ez hx k O)
 have GC:=J gc;have R:x.check=if x.ip.drop 4=List.replicate 12 0/\x.az=0 then 0 else 5:=lf
 have RR:=J R;have HX:=J hx;clear gc R hf hx;generalize x.cells=L at*;go_enter func32,ntmps32;go_wp2_with fail;go_loop[3] (fun i=>∃k:Nat,4<=k/\k<=16/\i= .int .i64 k/\Hid (∀j,4<=j->j<k->x.ip.getD j 0=0)) (fun i=>16-(intOf i).toNat)
 case atStart=>exact⟨4,Y,Y,I,J (fun j U F=>by omega)⟩
 case round=>
  obtain⟨k,h4,O,rfl,H⟩:=hrel;by_cases aA:k<16
  ·
   have h1:(k:Int)<16:=Y;have c1:=GC.out k aA;by_cases hz:x.ip.getD k 0=0
   ·
    rw[hz]at c1;have HZ:=J hz;clear hz;have c2:(w.alloc (.cells L.toArray 67)).cell? ⟨w.heap.size,1+k,none⟩=some (.int .u8 0):=c1;clear c1;go_wp2_with fail;go_round
    case rel=>exact⟨k+1,Y,Y,fQ,J (fun j U F=>by
     by_cases e:j=k
     ·subst e;exact HZ.out
     ·
      exact H.out j U Y)⟩
    case measure=>simp[intOf];omega
   ·
    have Z:=Wl x.ip HX.out k h4 aA hz;have hr:x.check=5:=by rw[RR.out,if_neg (fun h=>Z h.1)]
    have HR:=J hr;have hn:(x.ip.getD k 0).toNat≠0:=fun e=>hz (UInt8.toNat_inj.1 (by simpa using e))
    obtain⟨u,hu⟩:∃u,u=(x.ip.getD k 0).toNat:=gh;rw[<-hu]at c1 hn;have hn2:((u:Int) !=0)=true:=iV;clear hz Z hr hu hn;exact mJ
  ·
   have h1:¬(k:Int)<16:=Y;have hg:=Tf x.ip HX.out (fun j U F=>H.out j U Y);by_cases hz:x.az=0
   ·
    have hr:x.check=0:=by rw[RR.out,if_pos ⟨hg,hz⟩]
    have HR:=J hr;rw[hz]at g17;clear hr hg hz;exact mJ
   ·
    have hr:x.check=5:=by rw[RR.out,if_neg (fun h=>hz h.2)]
    have HR:=J hr;have hz2:(x.az !=0)=true:=jy;generalize x.az=zn at*;clear hr hg hz;exact mJ
theorem Nw(x:sg)(hx:x.ip.length=16)(hf:x.fam≠4)(w:World):Calls prog 32 #[.agg x.cells.toArray] w (rW (.int .i64 x.check) w):=by
 have hcl:=x.rY hx;have g0:∀hi:0<x.cells.length,x.cells[0]'hi= .int .i64 x.fam:=xN I;have g17:∀hi:17<x.cells.length,x.cells[17]'hi= .int .i64 x.az:=kj;have hf4:(x.fam==4)=false:=lJ;have aLY:(x.fam !=4)=true:=lJ;by_cases h6:x.fam=6
 ·
  have h6':(x.fam !=6)=false:=iw;by_cases hz:x.az<0
  ·have hr:x.check=4:=jv;have HR:=J hr;have d1:decide (x.az<0)=true:=decide_eq_true hz;generalize x.az=zn,x.fam=fm,x.cells=L at*;clear hf h6 hr;go_enter func32,ntmps32;exact mJ
  ·
   by_cases hz2:2147483647<x.az
   ·have hr:x.check=4:=jr;have HR:=J hr;have d1:decide (x.az<0)=false:=kH;have d2:decide (2147483647<x.az)=true:=decide_eq_true hz2;generalize x.az=zn,x.fam=fm,x.cells=L at*;clear hf h6 hr;go_enter func32,ntmps32;exact mJ
   ·have hr:x.check=0:=jH;have HR:=J hr;have d1:decide (x.az<0)=false:=kH;have d2:decide (2147483647<x.az)=false:=decide_eq_false hz2;generalize x.az=zn,x.fam=fm,x.cells=L at*;clear hf h6 hr;go_enter func32,ntmps32;exact mJ
 ·have h6':(x.fam !=6)=true:=iw;have hr:x.check=10:=kl;have HR:=J hr;generalize x.fam=fm,x.cells=L at*;clear hf h6 hr;go_enter func32,ntmps32;exact mJ
theorem ze(x:sg)(hx:x.ip.length=16)(w:World):Calls prog 32 #[.agg x.cells.toArray] w (rW (.int .i64 x.check) w):=by
 by_cases h:x.fam=4
 ·exact Nv x hx h w
 ·exact Nw x hx h w
end Go.Proofs.YtakkipnmpmobbaaGreat
