import Derived.Test.YtpaefpnkemkikaaGreatDoorB2
namespace Go.Proofs.YtpaefpnkemkikaaGreatDoor
open Go.RowKit Cdk Scr
end Go.Proofs.YtpaefpnkemkikaaGreatDoor
