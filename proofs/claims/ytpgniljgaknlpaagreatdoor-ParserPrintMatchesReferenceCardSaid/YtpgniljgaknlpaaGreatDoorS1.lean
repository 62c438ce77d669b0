import Derived.Test.YtpgniljgaknlpaaGreatDoorS0
import Derived.Test.YtpgniljgaknlpaaGreatDoorK26
import Derived.Great.BuildSlice
/-
  'Spoil': a list with one more node.
-/
namespace Go.Proofs.YtpgniljgaknlpaaGreatDoor
open Go.RowKit Cdk Tpl

def badN : List Nd := [(.mk 0 [] [] [] 0 [] [] []),
  (.mk 6 [] [97] [] 0 [] [] []),
  (.mk 1 [] [] [] 0 [] [] []),
  (.mk 1 [97, 127] [] [] 0 [] [] []),
  (.mk 1 [97] [97] [] 0 [] [] []),
  (.mk 1 [97] [] [] 0 [] [(.mk 1 [98] [] [] 0 [] [] [])] []),
  (.mk 2 [] [] [] 0 [] [] []),
  (.mk 2 [] [101, 110, 100] [] 0 [] [] []),
  (.mk 2 [] [49, 97] [] 0 [] [] []),
  (.mk 2 [] [97, 98, 99, 100, 101, 102, 103, 104, 105, 106, 107, 108, 109, 110, 111, 112, 113, 114, 115, 116, 117] [] 0 [] [] []),
  (.mk 2 [] [97] [] 0 [[]] [] []),
  (.mk 2 [98] [97] [] 0 [] [] []),
  (.mk 2 [] [97] [] 1 [] [] []),
  (.mk 3 [] [65] [] 0 [] [] []),
  (.mk 3 [] [97] [34] 0 [] [] []),
  (.mk 3 [] [97] [10] 0 [] [] []),
  (.mk 3 [] [97] [] (-1) [] [] []),
  (.mk 3 [] [97] [] 1000000 [] [] []),
  (.mk 3 [] [97] [] 0 [[98]] [] []),
  (.mk 3 [] [97] [] 0 [] [] [(.mk 5 [] [98] [] 0 [] [] [])]),
  (.mk 3 [] [97] [] 0 [] [(.mk 2 [] [105, 102] [] 0 [] [] [])] []),
  (.mk 4 [] [97, 32, 98] [] 0 [] [] []),
  (.mk 4 [] [97] [98] 0 [] [] []),
  (.mk 4 [] [97] [] 0 [] [] [(.mk 1 [97] [] [] 0 [] [] []), (.mk 1 [98] [] [] 0 [] [] [])]),
  (.mk 5 [] [] [] 0 [] [] []),
  (.mk 5 [] [97] [] 0 [] [(.mk 5 [] [98] [] 0 [] [] [])] [])]
def badC (b : Nat) : List NC := [⟨0, [], [], [], 0, .slice none 0 0, .slice none 0 0, .slice none 0 0⟩,
  ⟨6, [], [97], [], 0, .slice none 0 0, .slice none 0 0, .slice none 0 0⟩,
  ⟨1, [], [], [], 0, .slice none 0 0, .slice none 0 0, .slice none 0 0⟩,
  ⟨1, [97, 127], [], [], 0, .slice none 0 0, .slice none 0 0, .slice none 0 0⟩,
  ⟨1, [97], [97], [], 0, .slice none 0 0, .slice none 0 0, .slice none 0 0⟩,
  ⟨1, [97], [], [], 0, .slice none 0 0, .slice (some ⟨b, 0, none⟩) 1 1, .slice none 0 0⟩,
  ⟨2, [], [], [], 0, .slice none 0 0, .slice none 0 0, .slice none 0 0⟩,
  ⟨2, [], [101, 110, 100], [], 0, .slice none 0 0, .slice none 0 0, .slice none 0 0⟩,
  ⟨2, [], [49, 97], [], 0, .slice none 0 0, .slice none 0 0, .slice none 0 0⟩,
  ⟨2, [], [97, 98, 99, 100, 101, 102, 103, 104, 105, 106, 107, 108, 109, 110, 111, 112, 113, 114, 115, 116, 117], [], 0, .slice none 0 0, .slice none 0 0, .slice none 0 0⟩,
  ⟨2, [], [97], [], 0, .slice (some ⟨b + 1, 0, none⟩) 1 1, .slice none 0 0, .slice none 0 0⟩,
  ⟨2, [98], [97], [], 0, .slice none 0 0, .slice none 0 0, .slice none 0 0⟩,
  ⟨2, [], [97], [], 1, .slice none 0 0, .slice none 0 0, .slice none 0 0⟩,
  ⟨3, [], [65], [], 0, .slice none 0 0, .slice none 0 0, .slice none 0 0⟩,
  ⟨3, [], [97], [34], 0, .slice none 0 0, .slice none 0 0, .slice none 0 0⟩,
  ⟨3, [], [97], [10], 0, .slice none 0 0, .slice none 0 0, .slice none 0 0⟩,
  ⟨3, [], [97], [], (-1), .slice none 0 0, .slice none 0 0, .slice none 0 0⟩,
  ⟨3, [], [97], [], 1000000, .slice none 0 0, .slice none 0 0, .slice none 0 0⟩,
  ⟨3, [], [97], [], 0, .slice (some ⟨b + 2, 0, none⟩) 1 1, .slice none 0 0, .slice none 0 0⟩,
  ⟨3, [], [97], [], 0, .slice none 0 0, .slice none 0 0, .slice (some ⟨b + 3, 0, none⟩) 1 1⟩,
  ⟨3, [], [97], [], 0, .slice none 0 0, .slice (some ⟨b + 4, 0, none⟩) 1 1, .slice none 0 0⟩,
  ⟨4, [], [97, 32, 98], [], 0, .slice none 0 0, .slice none 0 0, .slice none 0 0⟩,
  ⟨4, [], [97], [98], 0, .slice none 0 0, .slice none 0 0, .slice none 0 0⟩,
  ⟨4, [], [97], [], 0, .slice none 0 0, .slice none 0 0, .slice (some ⟨b + 5, 0, none⟩) 2 2⟩,
  ⟨5, [], [], [], 0, .slice none 0 0, .slice none 0 0, .slice none 0 0⟩,
  ⟨5, [], [97], [], 0, .slice none 0 0, .slice (some ⟨b + 6, 0, none⟩) 1 1, .slice none 0 0⟩]
def spoilS (l : List Nd) (n : Int) : List Nd := l ++ [badN.getD (pickS n 26) (.mk 0 [] [] [] 0 [] [] [])]
theorem badN_len : badN.length = 26 := rfl

section
variable (w : World)
def spW1 : World := (w).alloc (.cells #[.int .i64 1, .string ⟨#[98]⟩, .string ⟨#[]⟩, .string ⟨#[]⟩, .int .i64 0, .slice none 0 0, .slice none 0 0, .slice none 0 0] 36)
def spW2 : World := (spW1 w).alloc (.cells #[.string ⟨#[]⟩] 9)
def spW3 : World := (spW2 w).alloc (.cells #[.string ⟨#[98]⟩] 9)
def spW4 : World := (spW3 w).alloc (.cells #[.int .i64 5, .string ⟨#[]⟩, .string ⟨#[98]⟩, .string ⟨#[]⟩, .int .i64 0, .slice none 0 0, .slice none 0 0, .slice none 0 0] 36)
def spW5 : World := (spW4 w).alloc (.cells #[.int .i64 2, .string ⟨#[]⟩, .string ⟨#[105, 102]⟩, .string ⟨#[]⟩, .int .i64 0, .slice none 0 0, .slice none 0 0, .slice none 0 0] 36)
def spW6 : World := (spW5 w).alloc (.cells #[.int .i64 1, .string ⟨#[97]⟩, .string ⟨#[]⟩, .string ⟨#[]⟩, .int .i64 0, .slice none 0 0, .slice none 0 0, .slice none 0 0, .int .i64 1, .string ⟨#[98]⟩, .string ⟨#[]⟩, .string ⟨#[]⟩, .int .i64 0, .slice none 0 0, .slice none 0 0, .slice none 0 0] 36)
def spW7 : World := (spW6 w).alloc (.cells #[.int .i64 5, .string ⟨#[]⟩, .string ⟨#[98]⟩, .string ⟨#[]⟩, .int .i64 0, .slice none 0 0, .slice none 0 0, .slice none 0 0] 36)
def spBig : List Value := (badC w.heap.size).flatMap ncC
end

theorem sp_ext1 (w : World) : Ext w (spW1 w) := Mod.alloc (Mod.refl _ _) _
theorem sp_size1 (w : World) : (spW1 w).heap.size = w.heap.size + 1 := World.size_alloc _ _
theorem sp_ext2 (w : World) : Ext (spW1 w) (spW2 w) := Mod.alloc (Mod.refl _ _) _
theorem sp_size2 (w : World) : (spW2 w).heap.size = w.heap.size + 2 := by unfold spW2; rw [World.size_alloc, sp_size1]
theorem sp_ext3 (w : World) : Ext (spW2 w) (spW3 w) := Mod.alloc (Mod.refl _ _) _
theorem sp_size3 (w : World) : (spW3 w).heap.size = w.heap.size + 3 := by unfold spW3; rw [World.size_alloc, sp_size2]
theorem sp_ext4 (w : World) : Ext (spW3 w) (spW4 w) := Mod.alloc (Mod.refl _ _) _
theorem sp_size4 (w : World) : (spW4 w).heap.size = w.heap.size + 4 := by unfold spW4; rw [World.size_alloc, sp_size3]
theorem sp_ext5 (w : World) : Ext (spW4 w) (spW5 w) := Mod.alloc (Mod.refl _ _) _
theorem sp_size5 (w : World) : (spW5 w).heap.size = w.heap.size + 5 := by unfold spW5; rw [World.size_alloc, sp_size4]
theorem sp_ext6 (w : World) : Ext (spW5 w) (spW6 w) := Mod.alloc (Mod.refl _ _) _
theorem sp_size6 (w : World) : (spW6 w).heap.size = w.heap.size + 6 := by unfold spW6; rw [World.size_alloc, sp_size5]
theorem sp_ext7 (w : World) : Ext (spW6 w) (spW7 w) := Mod.alloc (Mod.refl _ _) _
theorem sp_size7 (w : World) : (spW7 w).heap.size = w.heap.size + 7 := by unfold spW7; rw [World.size_alloc, sp_size6]
/-- The seven blocks. -/
def spG (w : World) (k : Nat) : Prop := w.heap.size ≤ k ∧ k < w.heap.size + 7
theorem sp_n0 (w : World) : NodesAt (spG w) (spW1 w) (.slice (some ⟨w.heap.size + 0, 0, none⟩) 1 1) [(.mk 1 [98] [] [] 0 [] [] [])] :=
  NodesAt.madeF (w := w) [⟨1, [98], [], [], 0, .slice none 0 0, .slice none 0 0, .slice none 0 0⟩] [(.mk 1 [98] [] [] 0 [] [] [])] [.int .i64 1, .string ⟨#[98]⟩, .string ⟨#[]⟩, .string ⟨#[]⟩, .int .i64 0, .slice none 0 0, .slice none 0 0, .slice none 0 0] 1 (w.heap.size + 0) rfl rfl rfl (.cons _ _ _ _ (.mk ⟨1, [98], [], [], 0, .slice none 0 0, .slice none 0 0, .slice none 0 0⟩ [] [] [] (StrsAt.nil _ _) (NodesAt.nil _ _) (NodesAt.nil _ _)) .nil) ⟨by omega, by omega⟩
theorem sp_n1 (w : World) : StrsAt (spG w) (spW2 w) (.slice (some ⟨w.heap.size + 1, 0, none⟩) 1 1) [[]] :=
  StrsAt.madeF (w := (spW1 w)) [[]] [.string ⟨#[]⟩] 1 (w.heap.size + 1) rfl rfl (sp_size1 w).symm ⟨by omega, by omega⟩
theorem sp_n2 (w : World) : StrsAt (spG w) (spW3 w) (.slice (some ⟨w.heap.size + 2, 0, none⟩) 1 1) [[98]] :=
  StrsAt.madeF (w := (spW2 w)) [[98]] [.string ⟨#[98]⟩] 1 (w.heap.size + 2) rfl rfl (sp_size2 w).symm ⟨by omega, by omega⟩
theorem sp_n3 (w : World) : NodesAt (spG w) (spW4 w) (.slice (some ⟨w.heap.size + 3, 0, none⟩) 1 1) [(.mk 5 [] [98] [] 0 [] [] [])] :=
  NodesAt.madeF (w := (spW3 w)) [⟨5, [], [98], [], 0, .slice none 0 0, .slice none 0 0, .slice none 0 0⟩] [(.mk 5 [] [98] [] 0 [] [] [])] [.int .i64 5, .string ⟨#[]⟩, .string ⟨#[98]⟩, .string ⟨#[]⟩, .int .i64 0, .slice none 0 0, .slice none 0 0, .slice none 0 0] 1 (w.heap.size + 3) rfl rfl (sp_size3 w).symm (.cons _ _ _ _ (.mk ⟨5, [], [98], [], 0, .slice none 0 0, .slice none 0 0, .slice none 0 0⟩ [] [] [] (StrsAt.nil _ _) (NodesAt.nil _ _) (NodesAt.nil _ _)) .nil) ⟨by omega, by omega⟩
theorem sp_n4 (w : World) : NodesAt (spG w) (spW5 w) (.slice (some ⟨w.heap.size + 4, 0, none⟩) 1 1) [(.mk 2 [] [105, 102] [] 0 [] [] [])] :=
  NodesAt.madeF (w := (spW4 w)) [⟨2, [], [105, 102], [], 0, .slice none 0 0, .slice none 0 0, .slice none 0 0⟩] [(.mk 2 [] [105, 102] [] 0 [] [] [])] [.int .i64 2, .string ⟨#[]⟩, .string ⟨#[105, 102]⟩, .string ⟨#[]⟩, .int .i64 0, .slice none 0 0, .slice none 0 0, .slice none 0 0] 1 (w.heap.size + 4) rfl rfl (sp_size4 w).symm (.cons _ _ _ _ (.mk ⟨2, [], [105, 102], [], 0, .slice none 0 0, .slice none 0 0, .slice none 0 0⟩ [] [] [] (StrsAt.nil _ _) (NodesAt.nil _ _) (NodesAt.nil _ _)) .nil) ⟨by omega, by omega⟩
theorem sp_n5 (w : World) : NodesAt (spG w) (spW6 w) (.slice (some ⟨w.heap.size + 5, 0, none⟩) 2 2) [(.mk 1 [97] [] [] 0 [] [] []), (.mk 1 [98] [] [] 0 [] [] [])] :=
  NodesAt.madeF (w := (spW5 w)) [⟨1, [97], [], [], 0, .slice none 0 0, .slice none 0 0, .slice none 0 0⟩, ⟨1, [98], [], [], 0, .slice none 0 0, .slice none 0 0, .slice none 0 0⟩] [(.mk 1 [97] [] [] 0 [] [] []), (.mk 1 [98] [] [] 0 [] [] [])] [.int .i64 1, .string ⟨#[97]⟩, .string ⟨#[]⟩, .string ⟨#[]⟩, .int .i64 0, .slice none 0 0, .slice none 0 0, .slice none 0 0, .int .i64 1, .string ⟨#[98]⟩, .string ⟨#[]⟩, .string ⟨#[]⟩, .int .i64 0, .slice none 0 0, .slice none 0 0, .slice none 0 0] 2 (w.heap.size + 5) rfl rfl (sp_size5 w).symm (.cons _ _ _ _ (.mk ⟨1, [97], [], [], 0, .slice none 0 0, .slice none 0 0, .slice none 0 0⟩ [] [] [] (StrsAt.nil _ _) (NodesAt.nil _ _) (NodesAt.nil _ _)) (.cons _ _ _ _ (.mk ⟨1, [98], [], [], 0, .slice none 0 0, .slice none 0 0, .slice none 0 0⟩ [] [] [] (StrsAt.nil _ _) (NodesAt.nil _ _) (NodesAt.nil _ _)) .nil)) ⟨by omega, by omega⟩
theorem sp_n6 (w : World) : NodesAt (spG w) (spW7 w) (.slice (some ⟨w.heap.size + 6, 0, none⟩) 1 1) [(.mk 5 [] [98] [] 0 [] [] [])] :=
  NodesAt.madeF (w := (spW6 w)) [⟨5, [], [98], [], 0, .slice none 0 0, .slice none 0 0, .slice none 0 0⟩] [(.mk 5 [] [98] [] 0 [] [] [])] [.int .i64 5, .string ⟨#[]⟩, .string ⟨#[98]⟩, .string ⟨#[]⟩, .int .i64 0, .slice none 0 0, .slice none 0 0, .slice none 0 0] 1 (w.heap.size + 6) rfl rfl (sp_size6 w).symm (.cons _ _ _ _ (.mk ⟨5, [], [98], [], 0, .slice none 0 0, .slice none 0 0, .slice none 0 0⟩ [] [] [] (StrsAt.nil _ _) (NodesAt.nil _ _) (NodesAt.nil _ _)) .nil) ⟨by omega, by omega⟩
theorem sp_rows (w : World) : RowsAt (spG w) (spW7 w) (badC w.heap.size) badN :=
  .cons _ _ _ _ (.mk ⟨0, [], [], [], 0, .slice none 0 0, .slice none 0 0, .slice none 0 0⟩ [] [] [] (StrsAt.nil _ _) (NodesAt.nil _ _) (NodesAt.nil _ _)) <|
  .cons _ _ _ _ (.mk ⟨6, [], [97], [], 0, .slice none 0 0, .slice none 0 0, .slice none 0 0⟩ [] [] [] (StrsAt.nil _ _) (NodesAt.nil _ _) (NodesAt.nil _ _)) <|
  .cons _ _ _ _ (.mk ⟨1, [], [], [], 0, .slice none 0 0, .slice none 0 0, .slice none 0 0⟩ [] [] [] (StrsAt.nil _ _) (NodesAt.nil _ _) (NodesAt.nil _ _)) <|
  .cons _ _ _ _ (.mk ⟨1, [97, 127], [], [], 0, .slice none 0 0, .slice none 0 0, .slice none 0 0⟩ [] [] [] (StrsAt.nil _ _) (NodesAt.nil _ _) (NodesAt.nil _ _)) <|
  .cons _ _ _ _ (.mk ⟨1, [97], [97], [], 0, .slice none 0 0, .slice none 0 0, .slice none 0 0⟩ [] [] [] (StrsAt.nil _ _) (NodesAt.nil _ _) (NodesAt.nil _ _)) <|
  .cons _ _ _ _ (.mk ⟨1, [97], [], [], 0, .slice none 0 0, .slice (some ⟨w.heap.size + 0, 0, none⟩) 1 1, .slice none 0 0⟩ [] [(.mk 1 [98] [] [] 0 [] [] [])] [] (StrsAt.nil _ _) (((((((sp_n0 w).mod (sp_ext2 w) (fun _ _ h => h)).mod (sp_ext3 w) (fun _ _ h => h)).mod (sp_ext4 w) (fun _ _ h => h)).mod (sp_ext5 w) (fun _ _ h => h)).mod (sp_ext6 w) (fun _ _ h => h)).mod (sp_ext7 w) (fun _ _ h => h)) (NodesAt.nil _ _)) <|
  .cons _ _ _ _ (.mk ⟨2, [], [], [], 0, .slice none 0 0, .slice none 0 0, .slice none 0 0⟩ [] [] [] (StrsAt.nil _ _) (NodesAt.nil _ _) (NodesAt.nil _ _)) <|
  .cons _ _ _ _ (.mk ⟨2, [], [101, 110, 100], [], 0, .slice none 0 0, .slice none 0 0, .slice none 0 0⟩ [] [] [] (StrsAt.nil _ _) (NodesAt.nil _ _) (NodesAt.nil _ _)) <|
  .cons _ _ _ _ (.mk ⟨2, [], [49, 97], [], 0, .slice none 0 0, .slice none 0 0, .slice none 0 0⟩ [] [] [] (StrsAt.nil _ _) (NodesAt.nil _ _) (NodesAt.nil _ _)) <|
  .cons _ _ _ _ (.mk ⟨2, [], [97, 98, 99, 100, 101, 102, 103, 104, 105, 106, 107, 108, 109, 110, 111, 112, 113, 114, 115, 116, 117], [], 0, .slice none 0 0, .slice none 0 0, .slice none 0 0⟩ [] [] [] (StrsAt.nil _ _) (NodesAt.nil _ _) (NodesAt.nil _ _)) <|
  .cons _ _ _ _ (.mk ⟨2, [], [97], [], 0, .slice (some ⟨w.heap.size + 1, 0, none⟩) 1 1, .slice none 0 0, .slice none 0 0⟩ [[]] [] [] ((((((sp_n1 w).mod (sp_ext3 w) (fun _ _ h => h)).mod (sp_ext4 w) (fun _ _ h => h)).mod (sp_ext5 w) (fun _ _ h => h)).mod (sp_ext6 w) (fun _ _ h => h)).mod (sp_ext7 w) (fun _ _ h => h)) (NodesAt.nil _ _) (NodesAt.nil _ _)) <|
  .cons _ _ _ _ (.mk ⟨2, [98], [97], [], 0, .slice none 0 0, .slice none 0 0, .slice none 0 0⟩ [] [] [] (StrsAt.nil _ _) (NodesAt.nil _ _) (NodesAt.nil _ _)) <|
  .cons _ _ _ _ (.mk ⟨2, [], [97], [], 1, .slice none 0 0, .slice none 0 0, .slice none 0 0⟩ [] [] [] (StrsAt.nil _ _) (NodesAt.nil _ _) (NodesAt.nil _ _)) <|
  .cons _ _ _ _ (.mk ⟨3, [], [65], [], 0, .slice none 0 0, .slice none 0 0, .slice none 0 0⟩ [] [] [] (StrsAt.nil _ _) (NodesAt.nil _ _) (NodesAt.nil _ _)) <|
  .cons _ _ _ _ (.mk ⟨3, [], [97], [34], 0, .slice none 0 0, .slice none 0 0, .slice none 0 0⟩ [] [] [] (StrsAt.nil _ _) (NodesAt.nil _ _) (NodesAt.nil _ _)) <|
  .cons _ _ _ _ (.mk ⟨3, [], [97], [10], 0, .slice none 0 0, .slice none 0 0, .slice none 0 0⟩ [] [] [] (StrsAt.nil _ _) (NodesAt.nil _ _) (NodesAt.nil _ _)) <|
  .cons _ _ _ _ (.mk ⟨3, [], [97], [], (-1), .slice none 0 0, .slice none 0 0, .slice none 0 0⟩ [] [] [] (StrsAt.nil _ _) (NodesAt.nil _ _) (NodesAt.nil _ _)) <|
  .cons _ _ _ _ (.mk ⟨3, [], [97], [], 1000000, .slice none 0 0, .slice none 0 0, .slice none 0 0⟩ [] [] [] (StrsAt.nil _ _) (NodesAt.nil _ _) (NodesAt.nil _ _)) <|
  .cons _ _ _ _ (.mk ⟨3, [], [97], [], 0, .slice (some ⟨w.heap.size + 2, 0, none⟩) 1 1, .slice none 0 0, .slice none 0 0⟩ [[98]] [] [] (((((sp_n2 w).mod (sp_ext4 w) (fun _ _ h => h)).mod (sp_ext5 w) (fun _ _ h => h)).mod (sp_ext6 w) (fun _ _ h => h)).mod (sp_ext7 w) (fun _ _ h => h)) (NodesAt.nil _ _) (NodesAt.nil _ _)) <|
  .cons _ _ _ _ (.mk ⟨3, [], [97], [], 0, .slice none 0 0, .slice none 0 0, .slice (some ⟨w.heap.size + 3, 0, none⟩) 1 1⟩ [] [] [(.mk 5 [] [98] [] 0 [] [] [])] (StrsAt.nil _ _) (NodesAt.nil _ _) ((((sp_n3 w).mod (sp_ext5 w) (fun _ _ h => h)).mod (sp_ext6 w) (fun _ _ h => h)).mod (sp_ext7 w) (fun _ _ h => h))) <|
  .cons _ _ _ _ (.mk ⟨3, [], [97], [], 0, .slice none 0 0, .slice (some ⟨w.heap.size + 4, 0, none⟩) 1 1, .slice none 0 0⟩ [] [(.mk 2 [] [105, 102] [] 0 [] [] [])] [] (StrsAt.nil _ _) (((sp_n4 w).mod (sp_ext6 w) (fun _ _ h => h)).mod (sp_ext7 w) (fun _ _ h => h)) (NodesAt.nil _ _)) <|
  .cons _ _ _ _ (.mk ⟨4, [], [97, 32, 98], [], 0, .slice none 0 0, .slice none 0 0, .slice none 0 0⟩ [] [] [] (StrsAt.nil _ _) (NodesAt.nil _ _) (NodesAt.nil _ _)) <|
  .cons _ _ _ _ (.mk ⟨4, [], [97], [98], 0, .slice none 0 0, .slice none 0 0, .slice none 0 0⟩ [] [] [] (StrsAt.nil _ _) (NodesAt.nil _ _) (NodesAt.nil _ _)) <|
  .cons _ _ _ _ (.mk ⟨4, [], [97], [], 0, .slice none 0 0, .slice none 0 0, .slice (some ⟨w.heap.size + 5, 0, none⟩) 2 2⟩ [] [] [(.mk 1 [97] [] [] 0 [] [] []), (.mk 1 [98] [] [] 0 [] [] [])] (StrsAt.nil _ _) (NodesAt.nil _ _) ((sp_n5 w).mod (sp_ext7 w) (fun _ _ h => h))) <|
  .cons _ _ _ _ (.mk ⟨5, [], [], [], 0, .slice none 0 0, .slice none 0 0, .slice none 0 0⟩ [] [] [] (StrsAt.nil _ _) (NodesAt.nil _ _) (NodesAt.nil _ _)) <|
  .cons _ _ _ _ (.mk ⟨5, [], [97], [], 0, .slice none 0 0, .slice (some ⟨w.heap.size + 6, 0, none⟩) 1 1, .slice none 0 0⟩ [] [(.mk 5 [] [98] [] 0 [] [] [])] [] (StrsAt.nil _ _) (sp_n6 w) (NodesAt.nil _ _)) <|
  .nil

theorem sp_extW (w : World) : Ext w (spW7 w) := ((((((sp_ext1 w).trans (sp_ext2 w)).trans (sp_ext3 w)).trans (sp_ext4 w)).trans (sp_ext5 w)).trans (sp_ext6 w)).trans (sp_ext7 w)

theorem sp_fill (w : World) (cells : Array Value) (hc : cells.size = 208) : Instr.fill (fun i => some (i * 8, 8)) cells ((((badC w.heap.size).map ncV).zipIdx 0).map fun x => (x.2, x.1)) = some ((badC w.heap.size).flatMap ncC).toArray := by
  rw [Great.fill_whole (s := 8) (by decide) ((badC w.heap.size).map ncV) cells (fun v hv => by obtain ⟨c, -, rfl⟩ := List.mem_map.1 hv; rfl) (by rw [hc]; rfl)]
  rw [List.flatMap_map]
  rfl

def w8s (w : World) : Nat := ((spW7 w).alloc (.cells ((badC w.heap.size).flatMap ncC).toArray 36)).heap.size

set_option maxRecDepth 100000 in
set_option maxHeartbeats 8000000 in
theorem spoil_any {F : Nat → Prop} (w : World) (aa : Option Addr) (na ca : Nat) (la : List Nd) (n : Int) (ha : NodesAt F w (.slice aa na ca) la) (hF : ∀ k, F k → k < w.heap.size) (hna : na ≤ 1000000000) (hn1 : -9223372036854775808 ≤ n) (hn2 : n ≤ 9223372036854775807) :
    Calls Tryz.prog 15 #[.slice aa na ca, .int .i64 n] w fun e w' => ∃ v, e = .returned v ∧ NodesAt (fun k => F k ∨ Since w w' k) w' v (spoilS la n) ∧ Ext w w' := by
  obtain ⟨post, hpost⟩ : ∃ post : Ending → World → Prop, post = fun e w' => ∃ v, e = .returned v ∧ NodesAt (fun k => F k ∨ Since w w' k) w' v (spoilS la n) ∧ Ext w w' := ⟨_, rfl⟩
  rw [← hpost]
  replace hpost := hid hpost
  obtain ⟨ra, rfl, hra, hRa, hca, -⟩ := ha.rows
  replace ha := hid ha
  replace hra := hid hra
  replace hRa := hid hRa
  replace hca := hid hca
  have hs1 : IntKind.i64.wrap ((ra.length : Int) + 1) = (ra.length : Int) + 1 := IntWalk.i64_in _ (by omega)
  go_enter Tryz.func15, Tryz.ntmps15
  go_upto_region 3 with fail
  change Oper.wp _ _ _ (spW7 w) _ _
  obtain ⟨i0, hi, hz0, hz1, hz2⟩ := info_parts el42.row
  refine wp_buildSlice 26 36 26 _ rfl ((badC w.heap.size).flatMap ncC).toArray i0 _ Tryz.underlying26 hi hz0 (by rw [hz1]; decide) (by rw [hz1]; decide) ?_ ?_
  · rw [hz1, Array.toList_map]
    exact sp_fill w _ (by simp)
  have hB := RowIs.new (spW7 w) ((badC w.heap.size).flatMap ncC) 36
  have hx8 : Ext (spW7 w) ((spW7 w).alloc (.cells ((badC w.heap.size).flatMap ncC).toArray 36)) := Mod.alloc (Mod.refl _ _) _
  have hR8 := hid ((sp_rows w).mod hx8 (fun _ _ h => h))
  have hx8 := hid ((sp_extW w).trans hx8)
  have hBl : (badC w.heap.size).length = 26 := rfl
  have hz8 : w8s w = w.heap.size + 8 := by unfold w8s; rw [World.size_alloc, sp_size7]
  unfold w8s at hz8
  rw [sp_size7] at hB ⊢
  generalize ((spW7 w).alloc (.cells ((badC w.heap.size).flatMap ncC).toArray 36)) = w8 at hB hR8 hx8 hz8 ⊢
  replace hz8 := hid hz8
  generalize badC w.heap.size = rb at hB hR8 hBl ⊢
  generalize w.heap.size + 7 = Z at hB ⊢
  replace hB := hid hB
  replace hBl := hid hBl
  clear hi hz0 hz1 hz2
  go_wp2_with (first | (at_make; refine wpList_mk ncC rfl _ _ _ rfl Tryz.underlying26 el42 (ra.length + 1) rfl _ rfl (by omega) (by omega) (base := w8.heap.size) (Nat.le_refl _) (fun v1 w1 H1 => ?_)) | (at_builtin; refine wpList_app rfl _ _ _ rfl Tryz.underlying26 el42 rfl H1.out.1 _ _ _ rfl ra rfl (hra.out.ext (hx8.out.trans H1.out.2)) ncC_len (RowsAt.one hRa.out) (by simp only [List.length_nil]; omega) (by have := H1.out.2.size; omega) hca.out (fun v2 w2 H2 => ?_)))
  obtain ⟨Hn2, Hm2⟩ := H2.out
  have hx2 := Ext.grow H1.out.2 H1.out.1 Hm2
  rw [List.nil_append] at Hn2
  have hB2 := hB.out.ext hx2
  have hR2 := hR8.out.mod hx2 (fun _ _ h => h)
  have hxw := hid (hx8.out.trans hx2)
  have hb8 := hx2.size
  replace hx2 := hid hx2
  clear H1 H2 Hm2 hB hR8
  have hpk := hid (pick_any n 26 w2 hn1 hn2 (by omega) (by omega))
  obtain ⟨j, hj⟩ : ∃ j, j = pickS n 26 := ⟨_, rfl⟩
  have hj26 := pickS_lt n (n := 26) (by omega)
  rw [← hj] at hpk hj26
  obtain ⟨hjr, hNj⟩ := RowsAt.get (j := j) (by rw [badN_len]; exact hj26) hR2
  have hbd : badN.getD (pickS n 26) (.mk 0 [] [] [] 0 [] [] []) = badN[j]'(by rw [badN_len]; exact hj26) := by
    rw [← hj, List.getD_eq_getElem?_getD, List.getElem?_eq_getElem (by rw [badN_len]; exact hj26)]; rfl
  have hf := fun (i : Nat) (h : i < 8) => flat_get ncC 8 ncC_len rb j i rb[j] (List.getElem?_eq_getElem hjr) h
  obtain ⟨b', off', e0, hcl⟩ := hB2.at (by rw [flat_length _ 8 ncC_len, hBl.out]; omega)
  injection e0 with e0
  injection e0 with e0 e00
  subst e0; subst e00
  obtain ⟨kd2, tx2, nm2, ar2, ct2, a1, m1, c1, a2, m2, c2, a3, m3, c3, hc⟩ := hNj.form
  rw [hc] at hNj hf
  have g0 := hcl _ _ ((hf 0 (by omega)).trans rfl)
  have g1 := hcl _ _ ((hf 1 (by omega)).trans rfl)
  have g2 := hcl _ _ ((hf 2 (by omega)).trans rfl)
  have g3 := hcl _ _ ((hf 3 (by omega)).trans rfl)
  have g4 := hcl _ _ ((hf 4 (by omega)).trans rfl)
  have g5 := hcl _ _ ((hf 5 (by omega)).trans rfl)
  have g6 := hcl _ _ ((hf 6 (by omega)).trans rfl)
  have g7 := hcl _ _ ((hf 7 (by omega)).trans rfl)
  simp only [strV, Nat.add_zero, Nat.zero_add] at g0 g1 g2 g3 g4 g5 g6 g7
  clear hf hcl hc
  have d1 : (j : Int) < 26 := by omega
  have d2 : (0 : Int) ≤ (j : Int) := by omega
  generalize badN[j]'_ = nj at hNj hbd
  replace hj := hid hj
  replace hbd := hid hbd
  replace hNj := hid hNj
  replace hB2 := hid hB2
  replace hR2 := hid hR2
  replace Hn2 := hid Hn2
  replace hjr := hid hjr
  refine hpk.out.mono ?_
  rintro e w' ⟨rfl, rfl⟩
  clear hpk
  have hxe := Mod.alloc (Mod.refl (fun _ => False) w2) (.cells #[.int .i64 kd2, .string ⟨tx2.toArray⟩, .string ⟨nm2.toArray⟩, .string ⟨ar2.toArray⟩, .int .i64 ct2, .slice a1 m1 c1, .slice a2 m2 c2, .slice a3 m3 c3] 36)
  have hone := hNj.out.one
  replace hxe := hid hxe
  replace hone := hid hone
  have hrn : Hid (RowIs (w2.alloc (.cells #[.int .i64 kd2, .string ⟨tx2.toArray⟩, .string ⟨nm2.toArray⟩, .string ⟨ar2.toArray⟩, .int .i64 ct2, .slice a1 m1 c1, .slice a2 m2 c2, .slice a3 m3 c3] 36)) (some ⟨w2.heap.size, 0, none⟩) ([(⟨kd2, tx2, nm2, ar2, ct2, .slice a1 m1 c1, .slice a2 m2 c2, .slice a3 m3 c3⟩ : NC)].flatMap ncC)) := hid (RowIs.new w2 _ _)
  go_wp2_with (at_builtin; refine wpList_app rfl _ _ _ rfl Tryz.underlying26 el42 rfl (Hn2.out.ext hxe.out) _ 1 1 rfl [(⟨kd2, tx2, nm2, ar2, ct2, .slice a1 m1 c1, .slice a2 m2 c2, .slice a3 m3 c3⟩ : NC)] rfl hrn.out ncC_len (fun y hy => by simp only [List.mem_singleton] at hy; subst hy; exact hone.out) (by simp only [List.length_singleton]; omega) (by have := hxe.out.size; omega) (by simp) (fun v3 w3 H3 => ?_))
  rw [hpost.out]
  have hx3 := Ext.grow (hx2.out.trans hxe.out) (Hn2.out.ext hxe.out) H3.out.2
  have hx4 := hx8.out.trans hx3
  refine ⟨_, rfl, ?_, hx4⟩
  unfold spoilS
  rw [hbd.out]
  have hz := hz8.out
  have hs4 := hx3.size
  refine Own.nodesF H3.out.1 (RowsAt.app ((hRa.out.mod hx4 (fun _ _ h => h)).mono (fun k hk => .inl hk)) (.cons _ _ _ _ ?_ .nil)) (fun k h1 h2 => .inr ⟨by omega, h2⟩)
  have hn1 := hNj.out.mod hxe.out (fun _ _ h => h)
  exact (hn1.mod H3.out.2 (fun k hk e => by have := (Hn2.out.block k e).1; have := hk.2; omega)).mono (fun k hk => .inr ⟨hk.1, by have := hk.2; omega⟩)
end Go.Proofs.YtpgniljgaknlpaaGreatDoor
