import Derived.Test.YtcopgcdhkgenkaaGreatDoorW1
import Derived.LaidLaws
import Derived.LaidHandle
set_option linter.all false
set_option maxRecDepth 100000
set_option maxHeartbeats 16000000
namespace Go.Proofs.YtcopgcdhkgenkaaGreatDoor
open Go
theorem fine_0:((List.range 94).all fun j=>rowFine Tryz.prog (0+j))=true:=by kernel_rfl
theorem fine_1:((List.range 94).all fun j=>rowFine Tryz.prog (94+j))=true:=by kernel_rfl
theorem fine_2:((List.range 94).all fun j=>rowFine Tryz.prog (188+j))=true:=by kernel_rfl
theorem fine_3:((List.range 94).all fun j=>rowFine Tryz.prog (282+j))=true:=by kernel_rfl
theorem fine_4:((List.range 94).all fun j=>rowFine Tryz.prog (376+j))=true:=by kernel_rfl
theorem fine_5:((List.range 94).all fun j=>rowFine Tryz.prog (470+j))=true:=by kernel_rfl
theorem fine_6:((List.range 94).all fun j=>rowFine Tryz.prog (564+j))=true:=by kernel_rfl
theorem fine_7:((List.range 94).all fun j=>rowFine Tryz.prog (658+j))=true:=by kernel_rfl
theorem fine_8:((List.range 94).all fun j=>rowFine Tryz.prog (752+j))=true:=by kernel_rfl
theorem fine_all:∀ t:Nat,t < 846 -> (rowFine Tryz.prog t)=true:=fun t ht=>by
 have key:∀ (i:Nat),((List.range 94).all fun j=>rowFine Tryz.prog (i+j))=true -> i<=t -> t < i+94 -> (rowFine Tryz.prog t)=true:=fun i h h1 h2=>by
  have h3:=List.all_eq_true.1 h (t - i) (List.mem_range.2 (by omega))
  rwa [show i+(t - i)=t by omega] at h3
 by_cases h0:t < 94
 ·exact key 0 fine_0 (by omega) (by omega)
 by_cases h1:t < 188
 ·exact key 94 fine_1 (by omega) (by omega)
 by_cases h2:t < 282
 ·exact key 188 fine_2 (by omega) (by omega)
 by_cases h3:t < 376
 ·exact key 282 fine_3 (by omega) (by omega)
 by_cases h4:t < 470
 ·exact key 376 fine_4 (by omega) (by omega)
 by_cases h5:t < 564
 ·exact key 470 fine_5 (by omega) (by omega)
 by_cases h6:t < 658
 ·exact key 564 fine_6 (by omega) (by omega)
 by_cases h7:t < 752
 ·exact key 658 fine_7 (by omega) (by omega)
 by_cases h8:t < 846
 ·exact key 752 fine_8 (by omega) (by omega)
 ·omega
end Go.Proofs.YtcopgcdhkgenkaaGreatDoor
