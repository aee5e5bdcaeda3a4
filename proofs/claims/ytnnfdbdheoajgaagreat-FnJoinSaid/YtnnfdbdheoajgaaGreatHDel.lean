/- Lemmas of the proof (HDel), on an abstract machine. Conditions: none. -/
import Derived.Test.YtnnfdbdheoajgaaGreatHNew
import Derived.Test.YtnnfdbdheoajgaaGreatHApp
set_option linter.unusedVariables false
set_option linter.unusedSimpArgs false
namespace Go.Proofs.AM
open Go.RowKit
variable {P : Program} {tb : Tab} {F K : Nat → Prop} {w : World}
section
variable {G : Gam} {d : Nat} {o : Oper} {t : Tm} {a : Act} {hp hp' : aj7} {fps : Nat → List Nat} {x : AV}
end
end Go.Proofs.AM
