/-
  The argument Other of layer 29's law XchgForged:what the reading of one says of its cells.
-/
import Derived.Test.YthnbcmlnpdabhaaGreatLaw29fz
namespace Go.Proofs.YthnbcmlnpdabhaaGreat
open _root_.Go.Proofs.Tryz
open Go.ChangeShapes Go.WideShapes Go.ChangeAt Go.RowKit
set_option maxRecDepth 100000
set_option linter.unusedVariables false
set_option linter.unusedSimpArgs false
section
variable {H:Type} {enc:TypeId×Value->H} {w:World} {cs:List Value}
theorem aaH(h:uT enc prog w 74 cs):∃(n:Int) (e:Ev),cs=otC n e/\e.fr.ip.length=16/\e.data.length<=140737488355328:=by
 have c23:prog.cellsOf 74=23:=by kernel_rfl
 have c1:prog.cellsOf 3=1:=by kernel_rfl
 have ce:prog.cellsOf 42=22:=by kernel_rfl
 obtain⟨hl,hf⟩:=h.struct underlying74;rw[c23]at hl;have h0:uT enc prog w 3 ((cs.drop 0).take (prog.cellsOf 3)):=l9;have U:uT enc prog w 42 ((cs.drop 1).take (prog.cellsOf 42)):=l8;rw[c1]at h0;rw[ce]at U;obtain⟨n,e0⟩:=xR h0;obtain⟨e,e1,i16,dl⟩:=SB U;refine⟨n,e,?_,i16,dl⟩;show cs.drop 0=_;rw[wF cs 0 1 1 J,e0,wF cs 1 22 23 J,e1,List.drop_of_length_le I,List.append_nil];rfl
end
end Go.Proofs.YthnbcmlnpdabhaaGreat
