/-
  Layer 35 (single):goOn.
-/
import Derived.Test.YtakkipnmpmobbaaGreatIPq
namespace Go.Proofs.YtakkipnmpmobbaaGreat
open _root_.Go.Proofs.Tryz
open Go.RowKit
set_option maxRecDepth 100000
set_option linter.unusedVariables false
set_option linter.unusedSimpArgs false
def Dy(t:TypeId):Prop:=t=106
theorem VQ(A:Option Addr)(n c:Nat)(t:Int)(W:World):(Instr.build 160 #[(0,.slice A n c),(1,.int .i64 t),(2,.int .i64 1)]).run prog W= .ok (.agg [Value.slice A n c,.int .i64 t,.int .i64 1].toArray) W:=by kernel_rfl
theorem tf.Fg{lo:Nat}{w:World}{v:Value}{l:List Ou}{p:TypeId->Prop}(h:tf lo w v l)(hp:p 106):∀i,v.ownBlock=some i->wj w p lo i:=by
 intro i e;obtain⟨css,U,_⟩:=h;rcases U.2 with⟨hv,_⟩|⟨g',cap,cur,hv,hB,hg,_⟩
 ·rw[hv]at e;cases e
 ·rw[hv]at e;injection e with e;have e:g'=i:=e;subst e;exact⟨hB,_,cur.toList,hg,hp⟩
theorem Gm(r:Rs):(rT r).sv.length<=100/\(rT r).se.length<=100/\(rT r).so.length<=100:=by
 have U:=(Fb r).2;refine⟨Y,?_,?_⟩<;>(unfold rT sL;simp only[List.length_take];omega)
end Go.Proofs.YtakkipnmpmobbaaGreat
