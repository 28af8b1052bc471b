/- Search in rows of cells and seats. -/
import Derived.Test.YtpghedeghoegmaaCl
namespace Go.Proofs.Ytpghedeghoegmaa
open Go.ChangeShapes Go.WideShapes Go.ChangeAt Go.RowKit Go.Sort
set_option linter.unusedVariables false
set_option linter.unusedSimpArgs false

end Go.Proofs.Ytpghedeghoegmaa
