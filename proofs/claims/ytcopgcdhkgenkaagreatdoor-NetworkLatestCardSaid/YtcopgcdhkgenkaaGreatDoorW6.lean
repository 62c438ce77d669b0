import Derived.Test.YtcopgcdhkgenkaaGreatDoorW1
import Derived.LaidLaws
import Derived.LaidHandle
set_option linter.all false
set_option maxRecDepth 100000
set_option maxHeartbeats 16000000
namespace Go.Proofs.YtcopgcdhkgenkaaGreatDoor
open Go
theorem rown_0 : ((List.range 94).all fun j => Tryz.prog.typeName? 3 (0 + j) != some "*errors.errorString" || (0 + j) == 768) = true := by kernel_rfl
theorem rown_1 : ((List.range 94).all fun j => Tryz.prog.typeName? 3 (94 + j) != some "*errors.errorString" || (94 + j) == 768) = true := by kernel_rfl
theorem rown_2 : ((List.range 94).all fun j => Tryz.prog.typeName? 3 (188 + j) != some "*errors.errorString" || (188 + j) == 768) = true := by kernel_rfl
theorem rown_3 : ((List.range 94).all fun j => Tryz.prog.typeName? 3 (282 + j) != some "*errors.errorString" || (282 + j) == 768) = true := by kernel_rfl
theorem rown_4 : ((List.range 94).all fun j => Tryz.prog.typeName? 3 (376 + j) != some "*errors.errorString" || (376 + j) == 768) = true := by kernel_rfl
theorem rown_5 : ((List.range 94).all fun j => Tryz.prog.typeName? 3 (470 + j) != some "*errors.errorString" || (470 + j) == 768) = true := by kernel_rfl
theorem rown_6 : ((List.range 94).all fun j => Tryz.prog.typeName? 3 (564 + j) != some "*errors.errorString" || (564 + j) == 768) = true := by kernel_rfl
theorem rown_7 : ((List.range 94).all fun j => Tryz.prog.typeName? 3 (658 + j) != some "*errors.errorString" || (658 + j) == 768) = true := by kernel_rfl
theorem rown_8 : ((List.range 94).all fun j => Tryz.prog.typeName? 3 (752 + j) != some "*errors.errorString" || (752 + j) == 768) = true := by kernel_rfl
theorem rown_all : ∀ t : Nat, t < 846 -> (Tryz.prog.typeName? 3 t != some "*errors.errorString" || t == 768) = true := fun t ht => by
 have key : ∀ (i : Nat), ((List.range 94).all fun j => Tryz.prog.typeName? 3 (i + j) != some "*errors.errorString" || (i + j) == 768) = true -> i <= t -> t < i + 94 -> (Tryz.prog.typeName? 3 t != some "*errors.errorString" || t == 768) = true := fun i h h1 h2 => by
  have h3:=List.all_eq_true.1 h (t - i) (List.mem_range.2 (by omega))
  rwa [show i+(t - i)=t by omega] at h3
 by_cases h0:t < 94
 ·exact key 0 rown_0 (by omega) (by omega)
 by_cases h1:t < 188
 ·exact key 94 rown_1 (by omega) (by omega)
 by_cases h2:t < 282
 ·exact key 188 rown_2 (by omega) (by omega)
 by_cases h3:t < 376
 ·exact key 282 rown_3 (by omega) (by omega)
 by_cases h4:t < 470
 ·exact key 376 rown_4 (by omega) (by omega)
 by_cases h5:t < 564
 ·exact key 470 rown_5 (by omega) (by omega)
 by_cases h6:t < 658
 ·exact key 564 rown_6 (by omega) (by omega)
 by_cases h7:t < 752
 ·exact key 658 rown_7 (by omega) (by omega)
 by_cases h8:t < 846
 ·exact key 752 rown_8 (by omega) (by omega)
 ·omega
end Go.Proofs.YtcopgcdhkgenkaaGreatDoor
