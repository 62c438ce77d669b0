/-
  Words of our own over any program: how a call may change the world ('Mod'), and how a map's block reads as a list of pairs ('MapAt'), with the laws of look-up, store, delete, len and range.
-/
import Derived.WalkKit
import Derived.WalkSpells
import Derived.WalkLawsBesides
import Derived.Deep.LoopGhost
import Derived.Deep.DeepCutAuto
import Derived.Deep.QuietTactic
import Derived.BigQuiet
import Derived.Deep.RegionHeld3
import Derived.Deep.DeepFit
import Derived.StillTailTactics
namespace Cdk
open Go Go.RowKit

/-- A fact that the walk does not take for a rule; '.out' gives it back. -/
theorem hid {p : Prop} (h : p) : Hid p := h

/-- From w to w' only blocks in S, and new ones, have changed. -/
structure Mod (S : Nat → Prop) (w w' : World) : Prop where
  os : w'.os = w.os
  tape : w'.tape = w.tape
  output : w'.output = w.output
  size : w.heap.size ≤ w'.heap.size
  block : ∀ k, k < w.heap.size → ¬ S k → w'.heap[k]? = w.heap[k]?

/-- Nothing that was there has changed. -/
abbrev Ext (w w' : World) : Prop := Mod (fun _ => False) w w'

variable {S T : Nat → Prop} {w w' w'' : World}

theorem Mod.refl (S : Nat → Prop) (w : World) : Mod S w w := ⟨rfl, rfl, rfl, Nat.le_refl _, fun _ _ _ => rfl⟩

theorem Mod.trans (h : Mod S w w') (k : Mod S w' w'') : Mod S w w'' :=
  ⟨k.os.trans h.os, k.tape.trans h.tape, k.output.trans h.output, Nat.le_trans h.size k.size, fun i hi hs => (k.block i (Nat.lt_of_lt_of_le hi h.size) hs).trans (h.block i hi hs)⟩

theorem Mod.mono (h : Mod S w w') (hST : ∀ k, S k → T k) : Mod T w w' :=
  ⟨h.os, h.tape, h.output, h.size, fun k hk hs => h.block k hk (fun hS => hs (hST k hS))⟩

/-- Sets are asked below the first world's size alone. -/
theorem Mod.mono' (h : Mod S w w') (hST : ∀ k, k < w.heap.size → S k → T k) : Mod T w w' :=
  ⟨h.os, h.tape, h.output, h.size, fun k hk hs => h.block k hk (fun hS => hs (hST k hk hS))⟩

theorem Mod.then (h : Mod S w w') (k : Mod T w' w'') (hT : ∀ k, k < w.heap.size → T k → S k) : Mod S w w'' :=
  ⟨k.os.trans h.os, k.tape.trans h.tape, k.output.trans h.output, Nat.le_trans h.size k.size,
    fun i hi hs => (k.block i (Nat.lt_of_lt_of_le hi h.size) (fun t => hs (hT i hi t))).trans (h.block i hi hs)⟩

theorem Mod.drew (h : Mod S w w') : Mod S w w'.drew := ⟨h.os, h.tape, h.output, h.size, h.block⟩

theorem Mod.drew0 (S : Nat → Prop) (w : World) : Mod S w w.drew := (Mod.refl S w).drew

theorem Mod.ofDrewN (h : Mod S w w') (n : Nat) : Mod S w (w'.drewN n) := ⟨h.os, h.tape, h.output, h.size, h.block⟩

theorem Mod.alloc (h : Mod S w w') (o : Obj) : Mod S w (w'.alloc o) :=
  ⟨h.os, h.tape, h.output, Nat.le_trans h.size (by simp), fun k hk hs => by
    rw [Below.heap_alloc w' o k (Nat.lt_of_lt_of_le hk h.size)]; exact h.block k hk hs⟩

theorem Mod.setCell (h : Mod S w w') {a : Addr} (ha : a.block < w.heap.size → S a.block) (u : Value) : Mod S w (w'.setCell a u) :=
  ⟨h.os, h.tape, h.output, by simpa [World.setCell] using h.size, fun k hk hs => by
    rw [Below.heap_setCell w' a u k (fun e => hs (e ▸ ha (e ▸ hk)))]; exact h.block k hk hs⟩

theorem Mod.ofGrown {row : Option Nat} (hg : w.grownBy w' row) (hr : ∀ k, row = some k → S k) : Mod S w w' :=
  ⟨hg.os, hg.tape, hg.output, hg.size, fun k hk hs => hg.block k hk (fun e => hs (hr k e.symm))⟩

theorem Mod.ofBelow (h : Below w.heap.size w w') : Mod S w w' := ⟨h.os, h.tape, h.output, h.size, fun k hk _ => h.block k hk⟩

theorem Mod.below (h : Mod S w w') {B : Nat} (hB : B ≤ w.heap.size) (hS : ∀ k, S k → B ≤ k) : Below B w w' :=
  ⟨h.os, h.tape, h.output, h.size, fun k hk => h.block k (Nat.lt_of_lt_of_le hk hB) (fun hs => by have := hS k hs; omega)⟩

/-- A block that is known keeps what it holds. -/
theorem Mod.at {o : Obj} (h : Mod S w w') {k : Nat} (hk : w.heap[k]? = some o) (hs : ¬ S k) : w'.heap[k]? = some o := by
  rw [h.block k (Array.getElem?_eq_some_iff.1 hk).1 hs]; exact hk

theorem Mod.cell (h : Mod S w w') {a : Addr} {v : Value} (hc : w.cell? a = some v) (hs : ¬ S a.block) : w'.cell? a = some v := by
  rw [World.cell?_of_block (h.block a.block (World.block_lt_of_cell? w a hc) hs)]; exact hc

theorem lt_of_at {o : Obj} {k : Nat} (hk : w.heap[k]? = some o) : k < w.heap.size := (Array.getElem?_eq_some_iff.1 hk).1

theorem alloc_get (w : World) (o : Obj) (k : Nat) : (w.alloc o).heap[k]? = if k = w.heap.size then some o else w.heap[k]? := by
  show (w.heap.push o)[k]? = _
  rw [Array.getElem?_push]

/-- Blocks made one behind the other. -/
def allocs : World → List Obj → World
  | w, [] => w
  | w, o :: l => allocs (w.alloc o) l

theorem allocs_ext : ∀ (l : List Obj) (w : World), Mod S w (allocs w l)
  | [], w => Mod.refl _ w
  | o :: l, w => ((Mod.refl S w).alloc o).trans (allocs_ext l _)

theorem allocs_size : ∀ (l : List Obj) (w : World), (allocs w l).heap.size = w.heap.size + l.length
  | [], w => rfl
  | o :: l, w => by rw [allocs, allocs_size l]; simp; omega

theorem allocs_get : ∀ (l : List Obj) (w : World) (j : Nat), j < l.length → (allocs w l).heap[w.heap.size + j]? = l[j]?
  | [], w, j, h => by simp at h
  | o :: l, w, 0, h => by
    rw [allocs, (allocs_ext (S := fun _ => False) l (w.alloc o)).block (w.heap.size + 0) (by simp) (fun h => h), alloc_get]
    simp
  | o :: l, w, j + 1, h => by
    have := allocs_get l (w.alloc o) j (by simpa using h)
    simp only [World.size_alloc] at this
    rw [allocs, show w.heap.size + (j + 1) = w.heap.size + 1 + j from by omega, this]
    simp

end Cdk
