import Derived.Test.YtjjfphalcibjfaaGreatDoorF7
namespace Go.Proofs.YtjjfphalcibjfaaGreatDoor
open Go.Shelf Go.RowKit Cdk Scr
end Go.Proofs.YtjjfphalcibjfaaGreatDoor
