/-
  Layer 9 (addr),as far as records want it:addresses as cells;'==';Check,and the reference's.
-/
import Derived.Test.YthnbcmlnpdabhaaGreatGBz
namespace Go.Proofs.YthnbcmlnpdabhaaGreat
open _root_.Go.Proofs.Tryz
set_option maxHeartbeats 8000000
open Go.RowKit
set_option maxRecDepth 100000
set_option linter.unusedVariables false
structure uV where
 fam:Int
 ip:List UInt8
 cl:Int
deriving DecidableEq
def uV.cells(a:uV):List Value:=.int .i64 a.fam::(vl a.ip++[.int .i64 a.cl])
def uV.zero:uV:=⟨0,List.replicate 16 0,0⟩
theorem uV.ur(a:uV)(h:a.ip.length=16):a.cells.length=18:=by simp[uV.cells,vB,h]
theorem Yh(l:List UInt8):∀v∈vl l,v.oneCell'=true:=by
 intro v hv;obtain⟨b,_,rfl⟩:=List.mem_map.1 hv;rfl
theorem uV.xg(a:uV):∀v∈a.cells,v.oneCell'=true:=by
 intro v hv;rcases List.mem_cons.1 hv with rfl|hv
 ·rfl
 ·
  rcases List.mem_append.1 hv with hv|hv
  ·exact Yh _ v hv
  ·rw[List.mem_singleton]at hv;subst hv;rfl
theorem U0(w:World):(sizeOf 5).run prog w= .ok 1 w:=by kernel_rfl
theorem aaP(w:World):(sizeOf 22).run prog w= .ok 16 w:=by kernel_rfl
theorem He(l:List UInt8):vl l=(l.map fun b=>(b.toNat:Int)).map (Value.int .u8):=by simp[vl,List.map_map,Function.comp_def]
theorem Ca:∀(a b:List UInt8),((a.map fun x=>(x.toNat:Int))==(b.map fun x=>(x.toNat:Int)))=decide (a=b)
 |[],[]=>rfl
 |x::a,y::b=>by
  have ih:=Ca a b;simp only[List.map_cons,List.cons_beq_cons,ih,List.cons.injEq];have:((x.toNat:Int)==(y.toNat:Int))=decide (x=y):=by
   by_cases h:x=y
   ·subst h;simp
   ·
    have:¬x.toNat=y.toNat:=fun e=>h (UInt8.toNat_inj.1 e)
    simp[h];omega
  rw[this];simp
 |[],_::_=>rfl
 |_::_,[]=>rfl
theorem Ky : (prog.fieldsOf 24).toList = [{ name := "Family", type := 3, offset := 0, embedded := false, tag := "", pkgPath := "", byteOffset := 0 }, { name := "IP", type := 22, offset := 1, embedded := false, tag := "", pkgPath := "", byteOffset := 8 }, { name := "Zone", type := 3, offset := 17, embedded := false, tag := "", pkgPath := "", byteOffset := 24 }] := by
 unfold Program.fieldsOf;rw[underlying24]
theorem uV.aaQ(a:uV)(h:a.ip.length=16):(a.cells.toArray.extract 1 17)=(vl a.ip).toArray:=by
 apply Array.toList_inj.1;simp only[uV.cells,List.extract_toArray,List.toList_toArray,List.extract_eq_take_drop,List.drop_succ_cons,List.drop_zero];exact List.take_left' (by rw[vB,h])
theorem uV.JX(a:uV)(h:a.ip.length=16):a.cells[17]?=some (.int .i64 a.cl):=by
 simp[uV.cells,vB,h]
theorem Hf(a b:uV)(ha:a.ip.length=16)(F:b.ip.length=16)(w:World):(Op.equalIn 10000 24 (.agg a.cells.toArray) (.agg b.cells.toArray)).run prog w= .ok (decide (a=b)) w:=by
 rw[run_equalIn_struct w 9999 24 _ _ aK (by kernel_rfl),Ky];have p0:∀(x:uV) (w:World),(part 3 x.cells.toArray 0).run prog w= .ok (.int .i64 x.fam) w:=ko;have p1:∀(x:uV),x.ip.length=16->∀(w:World),(part 22 x.cells.toArray 1).run prog w= .ok (.agg (vl x.ip).toArray) w:=fun x hx w=>by
  exact qM
 have p2:∀(x:uV),x.ip.length=16->∀(w:World),(part 3 x.cells.toArray 17).run prog w= .ok (.int .i64 x.cl) w:=jH;have e0:(Op.equalIn 9999 3 (.int .i64 a.fam) (.int .i64 b.fam)).run prog w= .ok (a.fam==b.fam) w:=gP;have e1:(Op.equalIn 9999 22 (.agg (vl a.ip).toArray) (.agg (vl b.ip).toArray)).run prog w= .ok (decide (a.ip=b.ip)) w:=by rw[He,He,yP w 9997 _ 5 16 .u8 underlying22 underlying5 U0 _ _ (by simpa using ha) aL,Ca]
 have e2:(Op.equalIn 9999 3 (.int .i64 a.cl) (.int .i64 b.cl)).run prog w= .ok (a.cl==b.cl) w:=gP;exact pA
def uV.check(a:uV):Int:=if a.fam=4 then(if a.ip.drop 4=List.replicate 12 0/\a.cl=0 then 0 else 5)else if a.fam=6 then(if a.cl<0\/2147483647<a.cl then 4 else 0)else 10
theorem acm{α:Type}{l:List α}(h:l.length=16):∃x0 x1 x2 x3 x4 x5 x6 x7 x8 x9 x10 x11 x12 x13 x14 x15,l=[x0,x1,x2,x3,x4,x5,x6,x7,x8,x9,x10,x11,x12,x13,x14,x15]:=by
 match l,h with
 |[x0,x1,x2,x3,x4,x5,x6,x7,x8,x9,x10,x11,x12,x13,x14,x15],_=>exact⟨x0,x1,x2,x3,x4,x5,x6,x7,x8,x9,x10,x11,x12,x13,x14,x15,J⟩
def xD(a b c d:UInt8):uV:=⟨4,[a,b,c,d,0,0,0,0,0,0,0,0,0,0,0,0],0⟩
def Yi:List Value:=uV.zero.cells
theorem vR:(prog.info? 24).map (·.size)=some 18:=by kernel_rfl
theorem Z.ad5(w:World)(k:Nat)(O:k=w.heap.size):Z (w.alloc (.cells #[.int .i64 0,.int .u8 0,.int .u8 0,.int .u8 0,.int .u8 0,.int .u8 0,.int .u8 0,.int .u8 0,.int .u8 0,.int .u8 0,.int .u8 0,.int .u8 0,.int .u8 0,.int .u8 0,.int .u8 0,.int .u8 0,.int .u8 0,.int .i64 0] 24)) k 24 Yi:=Z.vP w _ Yi k O
theorem Kz(a b c d:UInt8)(w:World):Calls prog 129 #[.int .u8 (a.toNat:Int),.int .u8 (b.toNat:Int),.int .u8 (c.toNat:Int),.int .u8 (d.toNat:Int)] w (uf (.agg (xD a b c d).cells.toArray) w):=by
 go_enter func129,ntmps129;go_wp2_with(refine tO (.store 24 (.tmp 8) (.tmp 14)) J (ab J w.heap.size 0 (xD a b c d).cells (Z.ad5 w _ J) (Nat.le_refl 18) vR (uV.xg _) ?_));intro w1 hb1 hg1 _;go_wp2_with fail;have hb2:Z w1 w.heap.size 24 (xD a b c d).cells:=by simpa[Yi,uV.zero,uV.cells,xD,vl]using hb1
 refine wQ Tryz.results129 w.heap.size J hb2 _ underlying24 J vR J ?_;exact uf.mk J (tN ((Below.refl _ _).alloc (Nat.le_refl _) _) hg1 ap (Nat.le_refl _))
theorem uV.Hg(x:uV)(hx:x.ip.length=16)(i:Nat)(hi:i<16):x.cells[i+1]?=some (.int .u8 ((x.ip.getD i 0).toNat:Int)):=by
 simp only[uV.cells,List.getElem?_cons_succ];rw[List.getElem?_append_left (by rw[vB,hx];exact hi),C9 x.ip i I];simp[List.getD,List.getElem?_eq_getElem (show i<x.ip.length by omega)]
theorem xp{L:List Value}{i:Nat}{v:Value}(h:L[i]?=some v):∀hi:i<L.length,L[i]'hi=v:=fun hi=>by rw[List.getElem?_eq_getElem hi]at h;exact Option.some.inj h
theorem VW(x:uV)(hx:x.ip.length=16)(w:World):Calls prog 220 #[.agg x.cells.toArray] w (uf (.agg (xD (x.ip.getD 0 0) (x.ip.getD 1 0) (x.ip.getD 2 0) (x.ip.getD 3 0)).cells.toArray) w):=by
 have hcl:=x.ur hx;have g1:=xp (x.Hg hx 0 ax);have g2:=xp (x.Hg hx 1 ax);have g3:=xp (x.Hg hx 2 ax);have g4:=xp (x.Hg hx 3 ax);generalize x.ip.getD 0 0=a at*;generalize x.ip.getD 1 0=b at*;generalize x.ip.getD 2 0=c at*;generalize x.ip.getD 3 0=d at*;generalize x.cells=L at*;go_enter func220,ntmps220;go_wp2_with fail;refine(Kz a b c d _).mono ?_;rintro _ w1 ⟨rfl,b1⟩;have hz:Z w1 (w.heap.size+1) 24 Yi:=(Z.ad5 _ _ ap).G b1 ap;have hB:al w w1:=tL (((Below.refl _ _).alloc (Nat.le_refl _) _).alloc ap _) az b1;clear b1;go_wp2_with(refine tO (.store 24 (.tmp 2) (.tmp 15)) J (ab J (w.heap.size+1) 0 (xD a b c d).cells hz (Nat.le_refl 18) vR (uV.xg _) ?_));intro w2 hb2 hg2 _;go_wp2_with fail;have hb3:Z w2 (w.heap.size+1) 24 (xD a b c d).cells:=by simpa[Yi,uV.zero,uV.cells,xD,vl]using hb2
 refine wQ Tryz.results220 (w.heap.size+1) J hb3 _ underlying24 J vR J ?_;exact uf.mk J (tN hB hg2 hB.size ap)
theorem Yj(x:uV)(hx:x.ip.length=16)(hf:x.fam=4):(x=xD (x.ip.getD 0 0) (x.ip.getD 1 0) (x.ip.getD 2 0) (x.ip.getD 3 0))↔(x.ip.drop 4=List.replicate 12 0/\x.cl=0):=by
 obtain⟨fam,ip,cl⟩:=x;simp only at hx hf;obtain⟨x0,x1,x2,x3,x4,x5,x6,x7,x8,x9,x10,x11,x12,x13,x14,x15,rfl⟩:=acm hx;subst hf;simp[xD,List.replicate]
theorem Tf(x:uV)(hx:x.ip.length=16)(hf:x.fam=4)(w:World):Calls prog 183 #[.agg x.cells.toArray] w (uf (.int .i64 x.check) w):=by
 have hcl:=x.ur hx;have g0:∀hi:0<x.cells.length,x.cells[0]'hi= .int .i64 4:=xp (by rw[<-hf];rfl);have afW:=VW x hx;have aeq:=Hf x (xD (x.ip.getD 0 0) (x.ip.getD 1 0) (x.ip.getD 2 0) (x.ip.getD 3 0)) hx J;have Q:=Yj x hx hf;have R:x.check=if x.ip.drop 4=List.replicate 12 0/\x.cl=0 then 0 else 5:=mL
 generalize xD (x.ip.getD 0 0) (x.ip.getD 1 0) (x.ip.getD 2 0) (x.ip.getD 3 0)=q at*;have hLD:∀W,Below (w.alloc (.cells x.cells.toArray 24)).heap.size (w.alloc (.cells x.cells.toArray 24)) W->(Instr.loadAt 24 (.pointer (some ⟨w.heap.size,0,none⟩))).run prog W= .ok (.agg x.cells.toArray) W:=fun W hW=>((Z.new w 24 x.cells).G hW ap).wk 24 0 18 I _ underlying24 J vR x.cells (wg I)
 have HLD:=Y hLD;have FF:=Y afW;have QQ:=Y Q;have RR:=Y R;clear afW hLD Q R hf;generalize x.cells=L,q.cells=L2 at*;go_enter func183,ntmps183;go_wp2_with fail;refine xz (by kernel_rfl) (by kernel_rfl) ?_;refine vr 24 (.tmp 1) J ⟨w.heap.size,0,none⟩ J J HLD.out ?_;simp only[z];refine vr 24 (.tmp 1) J ⟨w.heap.size,0,none⟩ J J HLD.out ?_;simp only[z];refine vN 220 #[.agg L.toArray] J (fun W=>by go_simp) (fun W hW=>uf.zq hW (FF.out W)) ?_;simp only[z];refine tW (v:=.bool (!decide (x=q))) J (fun W hW=>by go_simp) ?_;simp only[z];refine wpQuiet_nil ?_;intro w2 hB2;have hB:al w w2:=tL ((Below.refl _ _).alloc (Nat.le_refl _) _) ap hB2;clear hB2 HLD FF aeq;by_cases he:x=q
 ·
  have hr:x.check=0:=by rw[RR.out,if_pos (QQ.out.1 he)]
  have HR:=Y hr;rw[decide_eq_true he];exact sV
 ·
  have hr:x.check=5:=by rw[RR.out,if_neg (fun h=>he (QQ.out.2 h))]
  have HR:=Y hr;rw[decide_eq_false he];exact sV
theorem Tg(x:uV)(hx:x.ip.length=16)(hf:x.fam≠4)(w:World):Calls prog 183 #[.agg x.cells.toArray] w (uf (.int .i64 x.check) w):=by
 have hcl:=x.ur hx;have g0:∀hi:0<x.cells.length,x.cells[0]'hi= .int .i64 x.fam:=xp J;have g17:∀hi:17<x.cells.length,x.cells[17]'hi= .int .i64 x.cl:=nR;have hf4:(x.fam==4)=false:=nh;by_cases h6:x.fam=6
 ·
  have h6':(x.fam==6)=true:=js;by_cases hz:x.cl<0
  ·have hr:x.check=4:=j4;have HR:=Y hr;generalize x.cl=zn,x.fam=fm,x.cells=L at*;clear hf h6 hr;go_enter func183,ntmps183;exact oM
  ·
   by_cases hz2:2147483647<x.cl
   ·have hr:x.check=4:=jT;have HR:=Y hr;generalize x.cl=zn,x.fam=fm,x.cells=L at*;clear hf h6 hr;go_enter func183,ntmps183;exact oM
   ·have hr:x.check=0:=kB;have HR:=Y hr;generalize x.cl=zn,x.fam=fm,x.cells=L at*;clear hf h6 hr;go_enter func183,ntmps183;exact oM
 ·have h6':(x.fam==6)=false:=js;have hr:x.check=10:=lF;have HR:=Y hr;generalize x.fam=fm,x.cells=L at*;clear hf h6 hr;go_enter func183,ntmps183;exact oM
theorem CO(x:uV)(hx:x.ip.length=16)(w:World):Calls prog 183 #[.agg x.cells.toArray] w (uf (.int .i64 x.check) w):=by
 by_cases h:x.fam=4
 ·exact Tf x hx h w
 ·exact Tg x hx h w
theorem VX(ip:List UInt8)(hx:ip.length=16)(k:Nat)(h4:4<=k)(O:k<16)(h:ip.getD k 0≠0):ip.drop 4≠List.replicate 12 0:=by
 intro e;have:=congrArg (fun l=>l[k-4]?) e;simp only[List.getElem?_drop]at this;rw[show 4+(k-4)=k by omega,List.getElem?_eq_getElem I]at this;have X:(List.replicate 12 (0:UInt8))[k-4]?=some 0:=by rw[List.getElem?_replicate];simp;omega
 rw[X]at this;apply h;simp[List.getD,List.getElem?_eq_getElem (show k<ip.length by omega)];exact Option.some.inj this
theorem Th(ip:List UInt8)(hx:ip.length=16)(h:∀k,4<=k->k<16->ip.getD k 0=0):ip.drop 4=List.replicate 12 0:=by
 obtain⟨x0,x1,x2,x3,x4,x5,x6,x7,x8,x9,x10,x11,x12,x13,x14,x15,rfl⟩:=acm hx;have h4:=h 4 ax ax;have h5:=h 5 ax ax;have h6:=h 6 ax ax;have h7:=h 7 ax ax;have h8:=h 8 ax ax;have h9:=h 9 ax ax;have h10:=h 10 ax ax;have h11:=h 11 ax ax;have h12:=h 12 ax ax;have h13:=h 13 ax ax;have h14:=h 14 ax ax;have h15:=h 15 ax ax;simp only[List.getD_cons_succ,List.getD_cons_zero]at*;subst h4 h5 h6 h7 h8 h9 h10 h11 h12 h13 h14 h15;rfl
theorem OD(x:uV)(hx:x.ip.length=16)(hf:x.fam=4)(w:World):Calls prog 144 #[.agg x.cells.toArray] w (uf (.int .i64 x.check) w):=by
 have hcl:=x.ur hx;have g0:∀hi:0<x.cells.length,x.cells[0]'hi= .int .i64 4:=xp (by rw[<-hf];rfl);have g17:∀hi:17<x.cells.length,x.cells[17]'hi= .int .i64 x.cl:=nR;have gc:∀k,k<16->(w.alloc (.cells x.cells.toArray 24)).cell? ⟨w.heap.size,1+k,none⟩=some (.int .u8 ((x.ip.getD k 0).toNat:Int)):=fun k O=>by
  rw[Nat.add_comm];exact(Z.new w 24 x.cells).K (k+1) (x.Hg hx k O)
 have GC:=Y gc;have R:x.check=if x.ip.drop 4=List.replicate 12 0/\x.cl=0 then 0 else 5:=mL
 have RR:=Y R;have HX:=Y hx;clear gc R hf hx;generalize x.cells=L at*;go_enter func144,ntmps144;go_wp2_with fail;go_loop[3] (fun i=>∃k:Nat,4<=k/\k<=16/\i= .int .i64 k/\Hid (∀j,4<=j->j<k->x.ip.getD j 0=0)) (fun i=>16-(intOf i).toNat)
 case atStart=>exact⟨4,I,I,J,Y (fun j U X=>by omega)⟩
 case round=>
  obtain⟨k,h4,O,rfl,H⟩:=hrel;by_cases Hh:k<16
  ·
   have tQ:(k:Int)<16:=I;have c1:=GC.out k Hh;by_cases hz:x.ip.getD k 0=0
   ·
    rw[hz]at c1;have HZ:=Y hz;clear hz;have c2:(w.alloc (.cells L.toArray 24)).cell? ⟨w.heap.size,1+k,none⟩=some (.int .u8 0):=c1;clear c1;go_wp2_with fail;go_round
    case rel=>exact⟨k+1,I,I,fU,Y (fun j U X=>by
     by_cases e:j=k
     ·subst e;exact HZ.out
     ·
      exact H.out j U I)⟩
    case measure=>simp[intOf];omega
   ·
    have F:=VX x.ip HX.out k h4 Hh hz;have hr:x.check=5:=by rw[RR.out,if_neg (fun h=>F h.1)]
    have HR:=Y hr;have hn:(x.ip.getD k 0).toNat≠0:=fun e=>hz (UInt8.toNat_inj.1 (by simpa using e))
    obtain⟨u,hu⟩:∃u,u=(x.ip.getD k 0).toNat:=gp;rw[<-hu]at c1 hn;have hn2:((u:Int) !=0)=true:=cG;clear hz F hr hu hn;exact oM
  ·
   have tQ:¬(k:Int)<16:=I;have hg:=Th x.ip HX.out (fun j U X=>H.out j U I);by_cases hz:x.cl=0
   ·
    have hr:x.check=0:=by rw[RR.out,if_pos ⟨hg,hz⟩]
    have HR:=Y hr;rw[hz]at g17;clear hr hg hz;exact oM
   ·
    have hr:x.check=5:=by rw[RR.out,if_neg (fun h=>hz h.2)]
    have HR:=Y hr;have hz2:(x.cl !=0)=true:=nc;generalize x.cl=zn at*;clear hr hg hz;exact oM
theorem OE(x:uV)(hx:x.ip.length=16)(hf:x.fam≠4)(w:World):Calls prog 144 #[.agg x.cells.toArray] w (uf (.int .i64 x.check) w):=by
 have hcl:=x.ur hx;have g0:∀hi:0<x.cells.length,x.cells[0]'hi= .int .i64 x.fam:=xp J;have g17:∀hi:17<x.cells.length,x.cells[17]'hi= .int .i64 x.cl:=nR;have hf4:(x.fam==4)=false:=nh;have aFv:(x.fam !=4)=true:=nh;by_cases h6:x.fam=6
 ·
  have h6':(x.fam !=6)=false:=js;by_cases hz:x.cl<0
  ·have hr:x.check=4:=j4;have HR:=Y hr;generalize x.cl=zn,x.fam=fm,x.cells=L at*;clear hf h6 hr;go_enter func144,ntmps144;exact oM
  ·
   by_cases hz2:2147483647<x.cl
   ·have hr:x.check=4:=jT;have HR:=Y hr;generalize x.cl=zn,x.fam=fm,x.cells=L at*;clear hf h6 hr;go_enter func144,ntmps144;exact oM
   ·have hr:x.check=0:=kB;have HR:=Y hr;generalize x.cl=zn,x.fam=fm,x.cells=L at*;clear hf h6 hr;go_enter func144,ntmps144;exact oM
 ·have h6':(x.fam !=6)=true:=js;have hr:x.check=10:=lF;have HR:=Y hr;generalize x.fam=fm,x.cells=L at*;clear hf h6 hr;go_enter func144,ntmps144;exact oM
theorem zG(x:uV)(hx:x.ip.length=16)(w:World):Calls prog 144 #[.agg x.cells.toArray] w (uf (.int .i64 x.check) w):=by
 by_cases h:x.fam=4
 ·exact OD x hx h w
 ·exact OE x hx h w
end Go.Proofs.YthnbcmlnpdabhaaGreat
