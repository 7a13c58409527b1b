/- Words of the print for this seat (FootNe), those that its texts name. -/
import Derived.Test.YtohmemckdogljaaVN
namespace Go.Proofs.YtohmemckdogljaaW.PrintWords
open Go.RowKit
namespace Kd
section
variable {α : Type} {d : Kd α} {W : World} {g n : Nat} {S ok : Nat → Prop} {A : Option Addr} {ad : Addr} {xs : List α}
end
end Kd
end Go.Proofs.YtohmemckdogljaaW.PrintWords
