/- Lemmas of the proof (QBS), on an abstract machine. Conditions: none. -/
import Derived.Test.YtodmjmkakgamlaaGreatHV
import Derived.Shelf.Lay
import Derived.Ground.SlgnProg
import Derived.Ground.NamesProg
import Derived.Test.YtodmjmkakgamlaaGreatRows
set_option linter.unusedVariables false
set_option maxRecDepth 100000
namespace Go.Proofs.YtodmjmkakgamlaaGreat
open Go.Proofs.AM Go.Proofs Go.RowKit Go.Sort Go.Shelf
theorem mix : Tryz.prog.follows .mixedOrders = true := by kernel_rfl
shelf_lay_g SlLaysE.n43 Slgn 43 at Tryz 142 as strComp
theorem strComp_g {tb : Tab} {f : Nat} (hf : tb.fn f = 142) : GoodC Tryz.prog tb (compSCon f) := compS_good strComp (fun w => by kernel_rfl) hf (by rw [hf]; kernel_rfl)
shelf_lay Lays.n190 Nm 190 at Tryz as strSort
theorem strSort_g {tb : Tab} {f : Nat} (hf : tb.fn f = 141) : GoodC Tryz.prog tb (sortSCon f) := sortS_good strSort hf (by rw [hf]; kernel_rfl)
end Go.Proofs.YtodmjmkakgamlaaGreat
