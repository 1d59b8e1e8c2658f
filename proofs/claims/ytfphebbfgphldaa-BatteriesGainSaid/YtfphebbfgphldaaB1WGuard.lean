/- Words and contracts that the kit's printer and this seat's programs wrote for this claim: kept is what the proof names. Each holds under its own premises. -/
import Derived.Test.YtfphebbfgphldaaB1WWords
/-! ### 58. A guarded operation whose guard is known to want it: the same goal without the guard -/
namespace Go.Proofs.YtfphebbfgphldaaW.PrintWords
open Go.RowKit
section
variable {P : Program} {ops : Array Oper} {rest : List Oper} {o : Oper} {a : Act} {Q : Exit → Act → World → Prop} {W : World}
end
end Go.Proofs.YtfphebbfgphldaaW.PrintWords

