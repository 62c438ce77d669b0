import Derived.Test.YtcopgcdhkgenkaaGreatDoorG1
set_option linter.all false
set_option maxRecDepth 100000
set_option maxHeartbeats 16000000
namespace Go.Proofs.YtcopgcdhkgenkaaGreatDoor
open Go.ChangeShapes Go.WideShapes Go.ChangeAt Go.RowKit Cdk
theorem bt {a b:Bool} (h:a=true) (k:b=true):(a && b)=true:=by rw [h,k];rfl
theorem g_maps:(mapsRowed Tryz.prog)=true:=by kernel_rfl
theorem g_stops:(Tryz.prog.stops==[])=true:=by kernel_rfl
theorem g_knobs:(Tryz.prog.stopKnobs==[])=true:=by kernel_rfl
theorem g_plain:(Rows.networkClockRow.plainKeys==Tryz.prog.plainKeys)=true:=by kernel_rfl
theorem g_heard:(Tryz.prog.stopsHeard)=true:=by kernel_rfl
theorem g_enter:(Tryz.prog.mayEnter)=true:=by kernel_rfl
theorem g_lifts:(Rows.networkClockRow.lifted==Tryz.prog.liftsFinal)=true:=by kernel_rfl
theorem g_make:(Tryz.prog.make==some Rows.networkClockRow.make)=true:=by kernel_rfl
theorem g_main : Tryz.prog.mainIs = some (true, ("4f9b2a5e01fe620100502aad89a6c374947310d4e56a0e79ec735a6c60a7907e" : String).toList) := by kernel_rfl
theorem g_looks:true=Tryz.prog.looks []:=by kernel_rfl
end Go.Proofs.YtcopgcdhkgenkaaGreatDoor
