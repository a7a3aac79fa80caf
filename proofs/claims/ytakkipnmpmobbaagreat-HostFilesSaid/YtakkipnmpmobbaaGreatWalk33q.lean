/-
  Layer 33 (walk),its reference,and what the law of it asks.
-/
import Derived.Test.YtakkipnmpmobbaaGreatGAq
namespace Go.Proofs.YtakkipnmpmobbaaGreat
open _root_.Go.Proofs.Tryz
open Go.RowKit
def CW(v:Int):Int:=if v=1 then 0 else if v=3\/v=2 then 1 else if v=4 then 3 else 2
theorem J8(v:Int)(w:World):Calls prog 91 #[.int .i64 v] w (uQ (.int .i64 (CW v)) w):=by
 go_enter func91,ntmps91;go_wp2;all_goals go_ret
 all_goals(refine uQ.mk ?_ I;simp_all[CW])
end Go.Proofs.YtakkipnmpmobbaaGreat
