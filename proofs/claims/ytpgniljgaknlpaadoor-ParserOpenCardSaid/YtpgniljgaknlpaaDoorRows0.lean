/-
  Slices read as rows of cells, over any program.
-/
import Derived.Test.YtpgniljgaknlpaaDoorMapIter
namespace Cdk
open Go Go.RowKit

/-- From the address ao on lie the cells cs. -/
def RowIs (w : World) (ao : Option Addr) (cs : List Value) : Prop :=
  ∀ j u, cs[j]? = some u → ∃ b off, ao = some ⟨b, off, none⟩ ∧ w.cell? ⟨b, off + j, none⟩ = some u

theorem RowIs.nil (w : World) (ao : Option Addr) : RowIs w ao [] := fun j u h => by simp at h

theorem RowIs.at {w : World} {ao : Option Addr} {cs : List Value} (h : RowIs w ao cs) (hpos : 0 < cs.length) : ∃ b off, ao = some ⟨b, off, none⟩ ∧ ∀ j u, cs[j]? = some u → w.cell? ⟨b, off + j, none⟩ = some u := by
  obtain ⟨b, off, rfl, _⟩ := h 0 cs[0] (List.getElem?_eq_getElem hpos)
  refine ⟨b, off, rfl, fun j u hu => ?_⟩
  obtain ⟨b', off', he, hc⟩ := h j u hu
  simp only [Option.some.injEq, Addr.mk.injEq, and_true] at he
  rw [he.1, he.2]; exact hc

theorem RowIs.mod {S : Nat → Prop} {w w' : World} {ao : Option Addr} {cs : List Value} (h : RowIs w ao cs) (hm : Mod S w w') (hs : ∀ b off, ao = some ⟨b, off, none⟩ → ¬ S b) : RowIs w' ao cs := by
  intro j u hu
  obtain ⟨b, off, he, hc⟩ := h j u hu
  exact ⟨b, off, he, hm.cell hc (hs b off he)⟩

theorem RowIs.ext {w w' : World} {ao : Option Addr} {cs : List Value} (h : RowIs w ao cs) (hm : Ext w w') : RowIs w' ao cs := h.mod hm (fun _ _ _ h => h)

/-- A block that has just been made. -/
theorem RowIs.new (w : World) (cs : List Value) (e : TypeId) : RowIs (w.alloc (.cells cs.toArray e)) (some ⟨w.heap.size, 0, none⟩) cs := by
  intro j u hu
  refine ⟨w.heap.size, 0, rfl, ?_⟩
  have : (w.alloc (.cells cs.toArray e)).heap[w.heap.size]? = some (.cells cs.toArray e) := heap_alloc_new w _
  unfold World.cell?
  simp only [this]
  simpa using hu

/-- The cells of a list of elements, each 'size' cells. -/
theorem flat_get {α : Type} (f : α → List Value) (size : Nat) (hf : ∀ x, (f x).length = size) : ∀ (xs : List α) (i j : Nat) (x : α), xs[i]? = some x → j < size → (xs.flatMap f)[i * size + j]? = (f x)[j]?
  | [], _, _, _, h, _ => by simp at h
  | y :: xs, 0, j, x, h, hj => by
    simp at h; subst h
    simp only [List.flatMap_cons, Nat.zero_mul, Nat.zero_add]
    rw [List.getElem?_append_left (by rw [hf]; exact hj)]
  | y :: xs, i + 1, j, x, h, hj => by
    simp only [List.getElem?_cons_succ] at h
    simp only [List.flatMap_cons]
    rw [List.getElem?_append_right (by rw [hf, Nat.add_mul]; omega), hf]
    rw [show (i + 1) * size + j - size = i * size + j from by rw [Nat.add_mul]; omega]
    exact flat_get f size hf xs i j x h hj

theorem flat_length {α : Type} (f : α → List Value) (size : Nat) (hf : ∀ x, (f x).length = size) (xs : List α) : (xs.flatMap f).length = xs.length * size := by
  induction xs with
  | nil => simp
  | cons x xs ih => simp [ih, hf, Nat.add_mul]; omega

end Cdk
