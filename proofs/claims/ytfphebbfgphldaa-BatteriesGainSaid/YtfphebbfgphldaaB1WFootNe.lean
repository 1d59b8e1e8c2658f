/- Words and contracts that the kit's printer and this seat's programs wrote for this claim: kept is what the proof names. Each holds under its own premises. -/
import Derived.Test.YtfphebbfgphldaaB1WN
/-! ### 52. A row that stays read whatever happens to a block (a set of blocks) doesn't lie there -/
namespace Go.Proofs.YtfphebbfgphldaaW.PrintWords
open Go.RowKit
namespace Kd
section
variable {α : Type} {d : Kd α} {W : World} {g n : Nat} {S ok : Nat → Prop} {A : Option Addr} {ad : Addr} {xs : List α}
end
end Kd
end Go.Proofs.YtfphebbfgphldaaW.PrintWords

