/- Lemmas of RgS. -/
import Derived.Test.YtcjinlfgeljmkaaWSRgB
set_option linter.unusedSimpArgs false
set_option linter.unusedVariables false
namespace Go.Proofs.Ytcjinlfgeljmkaa
open Rg

section ev
variable {T : Type} [Rg T]
end ev

end Go.Proofs.Ytcjinlfgeljmkaa
