/-
  Layer 29,the laws' own:XchgEnds.
-/
import Derived.Test.YtakkipnmpmobbaaGreatILq
namespace Go.Proofs.YtakkipnmpmobbaaGreat
open _root_.Go.Proofs.Tryz
open Go.RowKit
set_option maxRecDepth 100000
set_option linter.unusedVariables false
set_option linter.unusedSimpArgs false
structure adi (n T:Nat) (x:Xc) (tk:Nat):Prop where
 tr:x.tr.length=n
 rst:x.r6+x.rest<=3*n
 Di:x.Di<=T-tk
 lg:x.lg<=2
 vd:x.done=true->x.vd≠0
theorem adi.OG{n T:Nat}{x:Xc}{tk:Nat}(h:adi n T x tk)(ok:x.ok)(L:Lt)(e:Ev):adi n T (sK x L e).1 (tk+if e.kind=1 then 1 else 0)/\(sK x L e).1.r6=x.r6+wu (sK x L e).2.2/\(sK x L e).2.1.us<=L.us+2/\(sK x L e).2.1.ds=L.ds/\(sK x L e).1.d.ty.length<=x.d.ty.length+e.data.length:=by
 have h2:=MG ok.st (fun hd=>(ok.go hd).2.1) h.lg h.vd L e;have U:=h.rst;have F:=h.Di;have h3:=h2.snt;have h4:=h2.rst;have h5:=h2.Di;refine⟨⟨by rw[h2.tr];exact h.tr,Y,?_,h2.lg,h2.vd⟩,h2.snt,h2.us,h2.ds,h2.hd⟩;split at h5<;>rename_i O
 ·rw[if_pos O];omega
 ·rw[if_neg O];omega
theorem adj(r:Rs)(q:Qn)(turn:Int)(L:Lt)(ok:(Dv (rT r).tmo (rT r).vc (rT r).ed q (uy r turn) L).1.ok)(he:(tM (ug q 0 (rT r).ed) false).2=0):(wY (rT r).tmo (rT r).vc (rT r).ed q (uy r turn)).st:=by
 have E:=(AM r turn).1;unfold Dv at ok;rw[if_neg (by rw[he];decide)]at ok;unfold Bp at ok;rw[if_pos (by show 0<(uy r turn).length;omega)]at ok;obtain⟨f1,f2,f3,f4,f5,f6,f7,f8,f9⟩:=Uw (wY (rT r).tmo (rT r).vc (rT r).ed q (uy r turn)) L (if(wY (rT r).tmo (rT r).vc (rT r).ed q (uy r turn)).vc then 2 else 0);have st:=ok.st (f1.trans I);exact⟨by have:=st.ips;rwa[f2]at this,by have:=st.to1;rwa[f4]at this,by have:=st.to2;rwa[f4]at this,by have:=st.trl;rwa[f2]at this,by have:=st.err;rwa[f8]at this⟩
theorem aa9(tmo:Int)(vc ed:Bool)(q:Qn)(tr:List sg)(L:Lt):(Dv tmo vc ed q tr L).2.2.length<=1:=by
 unfold Dv;split
 ·exact Nat.zero_le _
 ·exact AS _ _
theorem Ff(r:Rs):sm r<=1350/\uD r<=45:=by
 obtain⟨U,F⟩:=AM r 0;obtain⟨h3,h4⟩:=Ok r;have hm:uD r<=45:=by unfold uD;omega
 refine⟨?_,hm⟩;unfold sm;have:(rT r).tmo.toNat<=30:=Y;exact Nat.le_trans (Nat.mul_le_mul this hm) K
end Go.Proofs.YtakkipnmpmobbaaGreat
