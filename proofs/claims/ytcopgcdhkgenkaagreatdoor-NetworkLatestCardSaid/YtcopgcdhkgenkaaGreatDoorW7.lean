import Derived.Test.YtcopgcdhkgenkaaGreatDoorW1
import Derived.LaidLaws
import Derived.LaidHandle
set_option linter.all false
set_option maxRecDepth 100000
set_option maxHeartbeats 16000000
namespace Go.Proofs.YtcopgcdhkgenkaaGreatDoor
open Go
theorem namd_0 : ((List.range 94).all fun j => Tryz.prog.typeName? 2 (0 + j) != some "errors.errorString" || (match (Tryz.prog.info? (0 + j)).map (·.desc) with | some (TypeDesc.named _ _) => true | _ => false)) = true := by kernel_rfl
theorem namd_1 : ((List.range 94).all fun j => Tryz.prog.typeName? 2 (94 + j) != some "errors.errorString" || (match (Tryz.prog.info? (94 + j)).map (·.desc) with | some (TypeDesc.named _ _) => true | _ => false)) = true := by kernel_rfl
theorem namd_2 : ((List.range 94).all fun j => Tryz.prog.typeName? 2 (188 + j) != some "errors.errorString" || (match (Tryz.prog.info? (188 + j)).map (·.desc) with | some (TypeDesc.named _ _) => true | _ => false)) = true := by kernel_rfl
theorem namd_3 : ((List.range 94).all fun j => Tryz.prog.typeName? 2 (282 + j) != some "errors.errorString" || (match (Tryz.prog.info? (282 + j)).map (·.desc) with | some (TypeDesc.named _ _) => true | _ => false)) = true := by kernel_rfl
theorem namd_4 : ((List.range 94).all fun j => Tryz.prog.typeName? 2 (376 + j) != some "errors.errorString" || (match (Tryz.prog.info? (376 + j)).map (·.desc) with | some (TypeDesc.named _ _) => true | _ => false)) = true := by kernel_rfl
theorem namd_5 : ((List.range 94).all fun j => Tryz.prog.typeName? 2 (470 + j) != some "errors.errorString" || (match (Tryz.prog.info? (470 + j)).map (·.desc) with | some (TypeDesc.named _ _) => true | _ => false)) = true := by kernel_rfl
theorem namd_6 : ((List.range 94).all fun j => Tryz.prog.typeName? 2 (564 + j) != some "errors.errorString" || (match (Tryz.prog.info? (564 + j)).map (·.desc) with | some (TypeDesc.named _ _) => true | _ => false)) = true := by kernel_rfl
theorem namd_7 : ((List.range 94).all fun j => Tryz.prog.typeName? 2 (658 + j) != some "errors.errorString" || (match (Tryz.prog.info? (658 + j)).map (·.desc) with | some (TypeDesc.named _ _) => true | _ => false)) = true := by kernel_rfl
theorem namd_8 : ((List.range 94).all fun j => Tryz.prog.typeName? 2 (752 + j) != some "errors.errorString" || (match (Tryz.prog.info? (752 + j)).map (·.desc) with | some (TypeDesc.named _ _) => true | _ => false)) = true := by kernel_rfl
theorem namd_all : ∀ t : Nat, t < 846 -> (Tryz.prog.typeName? 2 t != some "errors.errorString" || (match (Tryz.prog.info? t).map (·.desc) with | some (TypeDesc.named _ _) => true | _ => false)) = true := fun t ht => by
 have key : ∀ (i : Nat), ((List.range 94).all fun j => Tryz.prog.typeName? 2 (i + j) != some "errors.errorString" || (match (Tryz.prog.info? (i + j)).map (·.desc) with | some (TypeDesc.named _ _) => true | _ => false)) = true -> i <= t -> t < i + 94 -> (Tryz.prog.typeName? 2 t != some "errors.errorString" || (match (Tryz.prog.info? t).map (·.desc) with | some (TypeDesc.named _ _) => true | _ => false)) = true := fun i h h1 h2 => by
  have h3:=List.all_eq_true.1 h (t - i) (List.mem_range.2 (by omega))
  rwa [show i+(t - i)=t by omega] at h3
 by_cases h0:t < 94
 ·exact key 0 namd_0 (by omega) (by omega)
 by_cases h1:t < 188
 ·exact key 94 namd_1 (by omega) (by omega)
 by_cases h2:t < 282
 ·exact key 188 namd_2 (by omega) (by omega)
 by_cases h3:t < 376
 ·exact key 282 namd_3 (by omega) (by omega)
 by_cases h4:t < 470
 ·exact key 376 namd_4 (by omega) (by omega)
 by_cases h5:t < 564
 ·exact key 470 namd_5 (by omega) (by omega)
 by_cases h6:t < 658
 ·exact key 564 namd_6 (by omega) (by omega)
 by_cases h7:t < 752
 ·exact key 658 namd_7 (by omega) (by omega)
 by_cases h8:t < 846
 ·exact key 752 namd_8 (by omega) (by omega)
 ·omega
end Go.Proofs.YtcopgcdhkgenkaaGreatDoor
