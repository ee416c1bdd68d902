-- Cut by a program of this session's (wip/trim.py) out of a print: what this claim does not name is left out.
import Derived.Test.YtpoppdaaodmicaaWN
/-! ### 52. A row that stays read whatever happens to a block (a set of blocks) doesn't lie there -/
namespace Go.Proofs.YtpoppdaaodmicaaW.PrintWords
open Go.RowKit
namespace Kd
section
variable {α : Type} {d : Kd α} {W : World} {g n : Nat} {S ok : Nat → Prop} {A : Option Addr} {ad : Addr} {xs : List α}
end
end Kd
end Go.Proofs.YtpoppdaaodmicaaW.PrintWords
