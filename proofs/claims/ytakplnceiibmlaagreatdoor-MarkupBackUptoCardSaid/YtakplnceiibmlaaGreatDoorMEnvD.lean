/- What the walks ask of the library's variables. -/
import Derived.Test.YtakplnceiibmlaaGreatDoorMGround
namespace Go.Proofs.YtakplnceiibmlaaGreatDoor
open Go.RowKit
structure EnvM (w : World) : Prop where
  e : Errs w
  t : Tabs w
end Go.Proofs.YtakplnceiibmlaaGreatDoor
