/-
  Layer 9 (addr),as far as records want it:addresses as cells;'==';Check,and the reference's.
-/
import Derived.Test.YthnbcmlnpdabhaaGreatGBq
namespace Go.Proofs.YthnbcmlnpdabhaaGreat
open _root_.Go.Proofs.Tryz
set_option maxHeartbeats 8000000
open Go.RowKit
set_option maxRecDepth 100000
set_option linter.unusedVariables false
structure vG where
 fam:Int
 ip:List UInt8
 hk:Int
deriving DecidableEq
def vG.cells(a:vG):List Value:=.int .i64 a.fam::(vT a.ip++[.int .i64 a.hk])
def vG.zero:vG:=⟨0,List.replicate 16 0,0⟩
theorem vG.uT(a:vG)(h:a.ip.length=16):a.cells.length=18:=by simp[vG.cells,v9,h]
theorem Y7(l:List UInt8):∀v∈vT l,v.oneCell'=true:=by
 intro v hv;obtain⟨b,_,rfl⟩:=List.mem_map.1 hv;rfl
theorem vG.xW(a:vG):∀v∈a.cells,v.oneCell'=true:=by
 intro v hv;rcases List.mem_cons.1 hv with rfl|hv
 ·rfl
 ·
  rcases List.mem_append.1 hv with hv|hv
  ·exact Y7 _ v hv
  ·rw[List.mem_singleton]at hv;subst hv;rfl
theorem VT(w:World):(sizeOf 5).run prog w= .ok 1 w:=by kernel_rfl
theorem abE(w:World):(sizeOf 22).run prog w= .ok 16 w:=by kernel_rfl
theorem Ik(l:List UInt8):vT l=(l.map fun b=>(b.toNat:Int)).map (Value.int .u8):=by simp[vT,List.map_map,Function.comp_def]
theorem Cx:∀(a b:List UInt8),((a.map fun x=>(x.toNat:Int))==(b.map fun x=>(x.toNat:Int)))=decide (a=b)
 |[],[]=>rfl
 |x::a,y::b=>by
  have ih:=Cx a b;simp only[List.map_cons,List.cons_beq_cons,ih,List.cons.injEq];have:((x.toNat:Int)==(y.toNat:Int))=decide (x=y):=by
   by_cases h:x=y
   ·subst h;simp
   ·
    have:¬x.toNat=y.toNat:=fun e=>h (UInt8.toNat_inj.1 e)
    simp[h];omega
  rw[this];simp
 |[],_::_=>rfl
 |_::_,[]=>rfl
theorem Lb : (prog.fieldsOf 24).toList = [{ name := "Family", type := 3, offset := 0, embedded := false, tag := "", pkgPath := "", byteOffset := 0 }, { name := "IP", type := 22, offset := 1, embedded := false, tag := "", pkgPath := "", byteOffset := 8 }, { name := "Zone", type := 3, offset := 17, embedded := false, tag := "", pkgPath := "", byteOffset := 24 }] := by
 unfold Program.fieldsOf;rw[underlying24]
theorem vG.abF(a:vG)(h:a.ip.length=16):(a.cells.toArray.extract 1 17)=(vT a.ip).toArray:=by
 apply Array.toList_inj.1;simp only[vG.cells,List.extract_toArray,List.toList_toArray,List.extract_eq_take_drop,List.drop_succ_cons,List.drop_zero];exact List.take_left' (by rw[v9,h])
theorem vG.KB(a:vG)(h:a.ip.length=16):a.cells[17]?=some (.int .i64 a.hk):=by
 simp[vG.cells,v9,h]
theorem FL(a b:vG)(ha:a.ip.length=16)(Z:b.ip.length=16)(w:World):(Op.equalIn 10000 24 (.agg a.cells.toArray) (.agg b.cells.toArray)).run prog w= .ok (decide (a=b)) w:=by
 rw[run_equalIn_struct w 9999 24 _ _ aL (by kernel_rfl),Lb];have p0:∀(x:vG) (w:World),(part 3 x.cells.toArray 0).run prog w= .ok (.int .i64 x.fam) w:=kG;have p1:∀(x:vG),x.ip.length=16->∀(w:World),(part 22 x.cells.toArray 1).run prog w= .ok (.agg (vT x.ip).toArray) w:=fun x hx w=>by
  exact ry
 have p2:∀(x:vG),x.ip.length=16->∀(w:World),(part 3 x.cells.toArray 17).run prog w= .ok (.int .i64 x.hk) w:=jW;have e0:(Op.equalIn 9999 3 (.int .i64 a.fam) (.int .i64 b.fam)).run prog w= .ok (a.fam==b.fam) w:=gZ;have e1:(Op.equalIn 9999 22 (.agg (vT a.ip).toArray) (.agg (vT b.ip).toArray)).run prog w= .ok (decide (a.ip=b.ip)) w:=by rw[Ik,Ik,zk w 9997 _ 5 16 .u8 underlying22 underlying5 VT _ _ (by simpa using ha) aM,Cx]
 have e2:(Op.equalIn 9999 3 (.int .i64 a.hk) (.int .i64 b.hk)).run prog w= .ok (a.hk==b.hk) w:=gZ;exact pW
def vG.check(a:vG):Int:=if a.fam=4 then(if a.ip.drop 4=List.replicate 12 0/\a.hk=0 then 0 else 5)else if a.fam=6 then(if a.hk<0\/2147483647<a.hk then 4 else 0)else 10
theorem adf{α:Type}{l:List α}(h:l.length=16):∃x0 x1 x2 x3 x4 x5 x6 x7 x8 x9 x10 x11 x12 x13 x14 x15,l=[x0,x1,x2,x3,x4,x5,x6,x7,x8,x9,x10,x11,x12,x13,x14,x15]:=by
 match l,h with
 |[x0,x1,x2,x3,x4,x5,x6,x7,x8,x9,x10,x11,x12,x13,x14,x15],_=>exact⟨x0,x1,x2,x3,x4,x5,x6,x7,x8,x9,x10,x11,x12,x13,x14,x15,J⟩
def yb(a b c d:UInt8):vG:=⟨4,[a,b,c,d,0,0,0,0,0,0,0,0,0,0,0,0],0⟩
def Y8:List Value:=vG.zero.cells
theorem wD:(prog.info? 24).map (·.size)=some 18:=by kernel_rfl
theorem F.aeS(w:World)(k:Nat)(z:k=w.heap.size):F (w.alloc (.cells #[.int .i64 0,.int .u8 0,.int .u8 0,.int .u8 0,.int .u8 0,.int .u8 0,.int .u8 0,.int .u8 0,.int .u8 0,.int .u8 0,.int .u8 0,.int .u8 0,.int .u8 0,.int .u8 0,.int .u8 0,.int .u8 0,.int .u8 0,.int .i64 0] 24)) k 24 Y8:=F.wE w _ Y8 k z
theorem Le(a b c d:UInt8)(w:World):Calls prog 129 #[.int .u8 (a.toNat:Int),.int .u8 (b.toNat:Int),.int .u8 (c.toNat:Int),.int .u8 (d.toNat:Int)] w (uI (.agg (yb a b c d).cells.toArray) w):=by
 go_enter func129,ntmps129;go_wp2_with(refine ur (.store 24 (.tmp 8) (.tmp 14)) J (ab J w.heap.size 0 (yb a b c d).cells (F.aeS w _ J) (Nat.le_refl 18) wD (vG.xW _) ?_));intro w1 hb1 hg1 _;go_wp2_with fail;have hb2:F w1 w.heap.size 24 (yb a b c d).cells:=by simpa[Y8,vG.zero,vG.cells,yb,vT]using hb1
 refine xd Tryz.results129 w.heap.size J hb2 _ underlying24 J wD J ?_;exact uI.mk J (uq ((Below.refl _ _).alloc (Nat.le_refl _) _) hg1 ap (Nat.le_refl _))
theorem vG.Il(x:vG)(hx:x.ip.length=16)(i:Nat)(hi:i<16):x.cells[i+1]?=some (.int .u8 ((x.ip.getD i 0).toNat:Int)):=by
 simp only[vG.cells,List.getElem?_cons_succ];rw[List.getElem?_append_left (by rw[v9,hx];exact hi),DI x.ip i I];simp[List.getD,List.getElem?_eq_getElem (show i<x.ip.length by omega)]
theorem xO{L:List Value}{i:Nat}{v:Value}(h:L[i]?=some v):∀hi:i<L.length,L[i]'hi=v:=fun hi=>by rw[List.getElem?_eq_getElem hi]at h;exact Option.some.inj h
theorem WZ(x:vG)(hx:x.ip.length=16)(w:World):Calls prog 220 #[.agg x.cells.toArray] w (uI (.agg (yb (x.ip.getD 0 0) (x.ip.getD 1 0) (x.ip.getD 2 0) (x.ip.getD 3 0)).cells.toArray) w):=by
 have hcl:=x.uT hx;have g1:=xO (x.Il hx 0 az);have g2:=xO (x.Il hx 1 az);have g3:=xO (x.Il hx 2 az);have g4:=xO (x.Il hx 3 az);generalize x.ip.getD 0 0=a at*;generalize x.ip.getD 1 0=b at*;generalize x.ip.getD 2 0=c at*;generalize x.ip.getD 3 0=d at*;generalize x.cells=L at*;go_enter func220,ntmps220;go_wp2_with fail;refine(Le a b c d _).mono ?_;rintro _ w1 ⟨rfl,b1⟩;have hz:F w1 (w.heap.size+1) 24 Y8:=(F.aeS _ _ ap).G b1 ap;have hB:al w w1:=um (((Below.refl _ _).alloc (Nat.le_refl _) _).alloc ap _) aA b1;clear b1;go_wp2_with(refine ur (.store 24 (.tmp 2) (.tmp 15)) J (ab J (w.heap.size+1) 0 (yb a b c d).cells hz (Nat.le_refl 18) wD (vG.xW _) ?_));intro w2 hb2 hg2 _;go_wp2_with fail;have hb3:F w2 (w.heap.size+1) 24 (yb a b c d).cells:=by simpa[Y8,vG.zero,vG.cells,yb,vT]using hb2
 refine xd Tryz.results220 (w.heap.size+1) J hb3 _ underlying24 J wD J ?_;exact uI.mk J (uq hB hg2 hB.size ap)
theorem Y9(x:vG)(hx:x.ip.length=16)(hf:x.fam=4):(x=yb (x.ip.getD 0 0) (x.ip.getD 1 0) (x.ip.getD 2 0) (x.ip.getD 3 0))↔(x.ip.drop 4=List.replicate 12 0/\x.hk=0):=by
 obtain⟨fam,ip,hk⟩:=x;simp only at hx hf;obtain⟨x0,x1,x2,x3,x4,x5,x6,x7,x8,x9,x10,x11,x12,x13,x14,x15,rfl⟩:=adf hx;subst hf;simp[yb,List.replicate]
theorem Ut(x:vG)(hx:x.ip.length=16)(hf:x.fam=4)(w:World):Calls prog 183 #[.agg x.cells.toArray] w (uI (.int .i64 x.check) w):=by
 have hcl:=x.uT hx;have g0:∀hi:0<x.cells.length,x.cells[0]'hi= .int .i64 4:=xO (by rw[<-hf];rfl);have agH:=WZ x hx;have aeH:=FL x (yb (x.ip.getD 0 0) (x.ip.getD 1 0) (x.ip.getD 2 0) (x.ip.getD 3 0)) hx J;have Q:=Y9 x hx hf;have R:x.check=if x.ip.drop 4=List.replicate 12 0/\x.hk=0 then 0 else 5:=mY
 generalize yb (x.ip.getD 0 0) (x.ip.getD 1 0) (x.ip.getD 2 0) (x.ip.getD 3 0)=q at*;have hLD:∀W,Below (w.alloc (.cells x.cells.toArray 24)).heap.size (w.alloc (.cells x.cells.toArray 24)) W->(Instr.loadAt 24 (.pointer (some ⟨w.heap.size,0,none⟩))).run prog W= .ok (.agg x.cells.toArray) W:=fun W hW=>((F.new w 24 x.cells).G hW ap).wS 24 0 18 I _ underlying24 J wD x.cells (wP I)
 have HLD:=Y hLD;have FF:=Y agH;have QQ:=Y Q;have RR:=Y R;clear agH hLD Q R hf;generalize x.cells=L,q.cells=L2 at*;go_enter func183,ntmps183;go_wp2_with fail;refine wY (by kernel_rfl) (by kernel_rfl) ?_;refine vr 24 (.tmp 1) J ⟨w.heap.size,0,none⟩ J J HLD.out ?_;simp only[E];refine vr 24 (.tmp 1) J ⟨w.heap.size,0,none⟩ J J HLD.out ?_;simp only[E];refine vy 220 #[.agg L.toArray] J (fun W=>by go_simp) (fun W hW=>uI.y9 hW (FF.out W)) ?_;simp only[E];refine ux (v:=.bool (!decide (x=q))) J (fun W hW=>by go_simp) ?_;simp only[E];refine wpQuiet_nil ?_;intro w2 hB2;have hB:al w w2:=um ((Below.refl _ _).alloc (Nat.le_refl _) _) ap hB2;clear hB2 HLD FF aeH;by_cases he:x=q
 ·
  have hr:x.check=0:=by rw[RR.out,if_pos (QQ.out.1 he)]
  have HR:=Y hr;rw[decide_eq_true he];exact tF
 ·
  have hr:x.check=5:=by rw[RR.out,if_neg (fun h=>he (QQ.out.2 h))]
  have HR:=Y hr;rw[decide_eq_false he];exact tF
theorem Uu(x:vG)(hx:x.ip.length=16)(hf:x.fam≠4)(w:World):Calls prog 183 #[.agg x.cells.toArray] w (uI (.int .i64 x.check) w):=by
 have hcl:=x.uT hx;have g0:∀hi:0<x.cells.length,x.cells[0]'hi= .int .i64 x.fam:=xO J;have g17:∀hi:17<x.cells.length,x.cells[17]'hi= .int .i64 x.hk:=oz;have hf4:(x.fam==4)=false:=nP;by_cases h6:x.fam=6
 ·
  have h6':(x.fam==6)=true:=jB;by_cases hz:x.hk<0
  ·have hr:x.check=4:=kw;have HR:=Y hr;generalize x.hk=zn,x.fam=fm,x.cells=L at*;clear hf h6 hr;go_enter func183,ntmps183;exact pn
  ·
   by_cases hz2:2147483647<x.hk
   ·have hr:x.check=4:=km;have HR:=Y hr;generalize x.hk=zn,x.fam=fm,x.cells=L at*;clear hf h6 hr;go_enter func183,ntmps183;exact pn
   ·have hr:x.check=0:=kV;have HR:=Y hr;generalize x.hk=zn,x.fam=fm,x.cells=L at*;clear hf h6 hr;go_enter func183,ntmps183;exact pn
 ·have h6':(x.fam==6)=false:=jB;have hr:x.check=10:=lS;have HR:=Y hr;generalize x.fam=fm,x.cells=L at*;clear hf h6 hr;go_enter func183,ntmps183;exact pn
theorem Dv(x:vG)(hx:x.ip.length=16)(w:World):Calls prog 183 #[.agg x.cells.toArray] w (uI (.int .i64 x.check) w):=by
 by_cases h:x.fam=4
 ·exact Ut x hx h w
 ·exact Uu x hx h w
theorem W8(ip:List UInt8)(hx:ip.length=16)(k:Nat)(h4:4<=k)(z:k<16)(h:ip.getD k 0≠0):ip.drop 4≠List.replicate 12 0:=by
 intro e;have:=congrArg (fun l=>l[k-4]?) e;simp only[List.getElem?_drop]at this;rw[show 4+(k-4)=k by omega,List.getElem?_eq_getElem I]at this;have X:(List.replicate 12 (0:UInt8))[k-4]?=some 0:=by rw[List.getElem?_replicate];simp;omega
 rw[X]at this;apply h;simp[List.getD,List.getElem?_eq_getElem (show k<ip.length by omega)];exact Option.some.inj this
theorem Uv(ip:List UInt8)(hx:ip.length=16)(h:∀k,4<=k->k<16->ip.getD k 0=0):ip.drop 4=List.replicate 12 0:=by
 obtain⟨x0,x1,x2,x3,x4,x5,x6,x7,x8,x9,x10,x11,x12,x13,x14,x15,rfl⟩:=adf hx;have h4:=h 4 az az;have h5:=h 5 az az;have h6:=h 6 az az;have h7:=h 7 az az;have h8:=h 8 az az;have h9:=h 9 az az;have h10:=h 10 az az;have h11:=h 11 az az;have h12:=h 12 az az;have h13:=h 13 az az;have h14:=h 14 az az;have h15:=h 15 az az;simp only[List.getD_cons_succ,List.getD_cons_zero]at*;subst h4 h5 h6 h7 h8 h9 h10 h11 h12 h13 h14 h15;rfl
theorem Ps(x:vG)(hx:x.ip.length=16)(hf:x.fam=4)(w:World):Calls prog 144 #[.agg x.cells.toArray] w (uI (.int .i64 x.check) w):=by
 have hcl:=x.uT hx;have g0:∀hi:0<x.cells.length,x.cells[0]'hi= .int .i64 4:=xO (by rw[<-hf];rfl);have g17:∀hi:17<x.cells.length,x.cells[17]'hi= .int .i64 x.hk:=oz;have gc:∀k,k<16->(w.alloc (.cells x.cells.toArray 24)).cell? ⟨w.heap.size,1+k,none⟩=some (.int .u8 ((x.ip.getD k 0).toNat:Int)):=fun k z=>by
  rw[Nat.add_comm];exact(F.new w 24 x.cells).M (k+1) (x.Il hx k z)
 have GC:=Y gc;have R:x.check=if x.ip.drop 4=List.replicate 12 0/\x.hk=0 then 0 else 5:=mY
 have RR:=Y R;have HX:=Y hx;clear gc R hf hx;generalize x.cells=L at*;go_enter func144,ntmps144;go_wp2_with fail;go_loop[3] (fun i=>∃k:Nat,4<=k/\k<=16/\i= .int .i64 k/\Hid (∀j,4<=j->j<k->x.ip.getD j 0=0)) (fun i=>16-(intOf i).toNat)
 case atStart=>exact⟨4,I,I,J,Y (fun j U X=>by omega)⟩
 case round=>
  obtain⟨k,h4,z,rfl,H⟩:=hrel;by_cases aB:k<16
  ·
   have h1:(k:Int)<16:=I;have c1:=GC.out k aB;by_cases hz:x.ip.getD k 0=0
   ·
    rw[hz]at c1;have HZ:=Y hz;clear hz;have c2:(w.alloc (.cells L.toArray 24)).cell? ⟨w.heap.size,1+k,none⟩=some (.int .u8 0):=c1;clear c1;go_wp2_with fail;go_round
    case rel=>exact⟨k+1,I,I,gp,Y (fun j U X=>by
     by_cases e:j=k
     ·subst e;exact HZ.out
     ·
      exact H.out j U I)⟩
    case measure=>simp[intOf];omega
   ·
    have Z:=W8 x.ip HX.out k h4 aB hz;have hr:x.check=5:=by rw[RR.out,if_neg (fun h=>Z h.1)]
    have HR:=Y hr;have hn:(x.ip.getD k 0).toNat≠0:=fun e=>hz (UInt8.toNat_inj.1 (by simpa using e))
    obtain⟨u,hu⟩:∃u,u=(x.ip.getD k 0).toNat:=gG;rw[<-hu]at c1 hn;have hn2:((u:Int) !=0)=true:=cG;clear hz Z hr hu hn;exact pn
  ·
   have h1:¬(k:Int)<16:=I;have hg:=Uv x.ip HX.out (fun j U X=>H.out j U I);by_cases hz:x.hk=0
   ·
    have hr:x.check=0:=by rw[RR.out,if_pos ⟨hg,hz⟩]
    have HR:=Y hr;rw[hz]at g17;clear hr hg hz;exact pn
   ·
    have hr:x.check=5:=by rw[RR.out,if_neg (fun h=>hz h.2)]
    have HR:=Y hr;have hz2:(x.hk !=0)=true:=nM;generalize x.hk=zn at*;clear hr hg hz;exact pn
theorem Pt(x:vG)(hx:x.ip.length=16)(hf:x.fam≠4)(w:World):Calls prog 144 #[.agg x.cells.toArray] w (uI (.int .i64 x.check) w):=by
 have hcl:=x.uT hx;have g0:∀hi:0<x.cells.length,x.cells[0]'hi= .int .i64 x.fam:=xO J;have g17:∀hi:17<x.cells.length,x.cells[17]'hi= .int .i64 x.hk:=oz;have hf4:(x.fam==4)=false:=nP;have aGx:(x.fam !=4)=true:=nP;by_cases h6:x.fam=6
 ·
  have h6':(x.fam !=6)=false:=jB;by_cases hz:x.hk<0
  ·have hr:x.check=4:=kw;have HR:=Y hr;generalize x.hk=zn,x.fam=fm,x.cells=L at*;clear hf h6 hr;go_enter func144,ntmps144;exact pn
  ·
   by_cases hz2:2147483647<x.hk
   ·have hr:x.check=4:=km;have HR:=Y hr;generalize x.hk=zn,x.fam=fm,x.cells=L at*;clear hf h6 hr;go_enter func144,ntmps144;exact pn
   ·have hr:x.check=0:=kV;have HR:=Y hr;generalize x.hk=zn,x.fam=fm,x.cells=L at*;clear hf h6 hr;go_enter func144,ntmps144;exact pn
 ·have h6':(x.fam !=6)=true:=jB;have hr:x.check=10:=lS;have HR:=Y hr;generalize x.fam=fm,x.cells=L at*;clear hf h6 hr;go_enter func144,ntmps144;exact pn
theorem Ad(x:vG)(hx:x.ip.length=16)(w:World):Calls prog 144 #[.agg x.cells.toArray] w (uI (.int .i64 x.check) w):=by
 by_cases h:x.fam=4
 ·exact Ps x hx h w
 ·exact Pt x hx h w
end Go.Proofs.YthnbcmlnpdabhaaGreat
