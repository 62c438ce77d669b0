import Derived.Test.YtpaefpnkemkikaaGreatDoorB3
namespace Go.Proofs.YtpaefpnkemkikaaGreatDoor
open Go.RowKit Cdk Scr
end Go.Proofs.YtpaefpnkemkikaaGreatDoor
