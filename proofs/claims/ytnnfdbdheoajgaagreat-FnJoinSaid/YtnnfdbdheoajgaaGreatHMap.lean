/- Lemmas of the proof (HMap), on an abstract machine. Conditions: none. -/
import Derived.Test.YtnnfdbdheoajgaaGreatHNew
import Derived.MapKept
import Derived.Carry
set_option linter.unusedVariables false
set_option linter.unusedSimpArgs false
namespace Go.Proofs.AM
open Go.RowKit
variable {P : Program} {tb : Tab} {F K : Nat → Prop} {w : World} {G : Gam} {d : Nat} {o : Oper} {t : Tm} {a : Act} {hp hp' : aj7} {fps : Nat → List Nat} {x : AV}
end Go.Proofs.AM
