import Derived.Test.YtpaefpnkemkikaaGreatDoorA16
namespace Go.Proofs.YtpaefpnkemkikaaGreatDoor
open Go.RowKit Cdk Scr
end Go.Proofs.YtpaefpnkemkikaaGreatDoor
