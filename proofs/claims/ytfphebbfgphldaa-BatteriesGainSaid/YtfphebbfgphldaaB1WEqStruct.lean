/- Words and contracts that the kit's printer and this seat's programs wrote for this claim: kept is what the proof names. Each holds under its own premises. -/
import Derived.Test.YtfphebbfgphldaaB1WWords
import Derived.Laws.StructEq
/-! ### 53. '==' of structs as_ one Bool -/
namespace Go.Proofs.YtfphebbfgphldaaW.PrintWords
open Go.RowKit
section
variable {P : Program} {d : Nat} {xs ys : Array Value} {f : Field} {fs : List Field} {a b : Value} {r s : Bool} {w : World}
end
end Go.Proofs.YtfphebbfgphldaaW.PrintWords

