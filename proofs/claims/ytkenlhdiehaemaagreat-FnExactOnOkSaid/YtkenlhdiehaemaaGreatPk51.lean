/- What is done at a message to prepare. -/
import Derived.Test.YtkenlhdiehaemaaGreatPk48
import Derived.RegionTactic
import Derived.BigRegion
import Derived.Deep.RegionWith
namespace Go.Proofs.YtkenlhdiehaemaaGreat
open Go.ChangeShapes Go.WideShapes Go.ChangeAt Go.RowKit Go.Sort
set_option linter.unusedVariables false
set_option linter.unusedSimpArgs false
section
variable {W0 W : World} {p P : Nat} {r : Rp} {am : LAd} {m : Mg}
end
end Go.Proofs.YtkenlhdiehaemaaGreat
