/- Search in rows of cells and seats. -/
import Derived.Test.YtednimdklbmjgaaCl
namespace Go.Proofs.Ytednimdklbmjgaa
open Go.ChangeShapes Go.WideShapes Go.ChangeAt Go.RowKit Go.Sort
set_option linter.unusedVariables false
set_option linter.unusedSimpArgs false

end Go.Proofs.Ytednimdklbmjgaa
