import Derived.Test.YtepacjkacjabbaaGreatDoorYAV
set_option linter.all false
namespace Go.Proofs.YtepacjkacjabbaaGreatDoor
open Go Go.Maps Go.RowKit

end Go.Proofs.YtepacjkacjabbaaGreatDoor
