import Derived.Test.YtjjfphalcibjfaaGreatDoorB3
namespace Go.Proofs.YtjjfphalcibjfaaGreatDoor
open Go.Shelf Go.RowKit Cdk Scr
end Go.Proofs.YtjjfphalcibjfaaGreatDoor
