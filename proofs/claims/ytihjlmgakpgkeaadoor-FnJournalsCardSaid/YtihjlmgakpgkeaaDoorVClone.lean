/- V: slices.Clone, which asks whether a slice is nil: V's data do not say that, so both ways are walked. -/
import Derived.Test.YtihjlmgakpgkeaaDoorVPathC
import Derived.Test.YtihjlmgakpgkeaaDoorVCode
namespace Go.Proofs.YtihjlmgakpgkeaaDoor.V
open Go Frag Go.RowKit
section
variable {F:FuncId→Option VFun} {X:Ext}
end
end Go.Proofs.YtihjlmgakpgkeaaDoor.V
