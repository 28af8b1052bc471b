/- ReplicaOk of the reference and of the program. -/
import Derived.Test.YtpghedeghoegmaaPk15
import Derived.Test.YtpghedeghoegmaaPk20
namespace Go.Proofs.Ytpghedeghoegmaa
open Go.ChangeShapes Go.WideShapes Go.ChangeAt Go.RowKit Go.Sort
set_option linter.unusedVariables false
set_option linter.unusedSimpArgs false
def VkTo (of : Int) (ps : List VtE) (k : Nat) : Prop := ∀ j (h : j < ps.length), j < k → vtOk of ps[j].2 = true
theorem VkTo.next {of : Int} {ps : List VtE} {k : Nat} (h : VkTo of ps k) (hk : k < ps.length) (hs : vtOk of ps[k].2 = true) : VkTo of ps (k + 1) := fun j hj hjk => by
 by_cases he : j = k
 ·subst he; exact hs
 ·exact h j hj (by omega)
end Go.Proofs.Ytpghedeghoegmaa
