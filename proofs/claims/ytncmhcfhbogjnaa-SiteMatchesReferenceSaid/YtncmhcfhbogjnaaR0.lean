import Derived.Test.YtncmhcfhbogjnaaS2
import Derived.Test.YtncmhcfhbogjnaaAppend
/-
  One cell of a slice is written in place.
-/
namespace Go.Proofs.Ytncmhcfhbogjnaa
open Go.RowKit Cdk

theorem flat_set {α : Type} (f : α → List Value) (size : Nat) (hf : ∀ x, (f x).length = size) {j : Nat} (hj : j < size) {x' : α} {u : Value} :
    ∀ (xs : List α) (k : Nat) (hk : k < xs.length), f x' = (f xs[k]).set j u → (xs.flatMap f).set (k * size + j) u = (xs.set k x').flatMap f
  | [], k, hk, _ => by simp at hk
  | a :: xs, 0, _, h => by
    simp only [List.getElem_cons_zero] at h
    simp only [List.flatMap_cons, List.set_cons_zero, Nat.zero_mul, Nat.zero_add]
    rw [List.set_append_left _ _ (by rw [hf]; exact hj), h]
  | a :: xs, k + 1, hk, h => by
    simp only [List.getElem_cons_succ] at h
    simp only [List.flatMap_cons, List.set_cons_succ]
    rw [List.set_append_right _ _ (by rw [hf, Nat.add_mul]; omega)]
    rw [hf, show (k + 1) * size + j - size = k * size + j by rw [Nat.add_mul]; omega]
    rw [flat_set f size hf hj xs k (by simpa using hk) h]

section
variable {α : Type} {f : α → List Value} {base : Nat} {e : TypeId} {size : Nat} {w w' : World} {v : Value} {xs : List α}

theorem _root_.Cdk.Own.set1 (h : Own w base e size f v xs) (hf : ∀ x, (f x).length = size) {b : Nat} (hv : v.ownBlock = some b) {k j : Nat} (hk : k < xs.length) (hj : j < size) {x' : α} {u : Value}
    (hx : f x' = (f xs[k]).set j u) : Own (w.setCell ⟨b, k * size + j, none⟩ u) base e size f v (xs.set k x') := by
  obtain ⟨h1, h2⟩ := h
  have hfl := flat_set f size hf hj xs k hk hx
  refine ⟨by rw [flat_length f size hf, List.length_set], ?_⟩
  rcases h2 with ⟨rfl, hn⟩ | ⟨g, cap, cur, rfl, hb, hg, hle, hcm, hcs, ht⟩
  · cases hv
  · have hgb : g = b := Option.some.inj hv
    subst hgb
    right
    refine ⟨g, cap, cur.setIfInBounds (k * size + j) u, by rw [List.length_set], hb, setCell_heap hg u, by rw [List.length_set]; exact hle, hcm, by simpa using hcs, ?_⟩
    rw [List.length_set, Array.toList_setIfInBounds, List.take_set, ht, hfl]

/-- A slice that is not empty lies at the head of its block. -/
theorem _root_.Cdk.Own.head (h : Own w base e size f v xs) (hpos : 0 < xs.length) : ∃ g cap, v = .slice (some ⟨g, 0, none⟩) xs.length cap ∧ v.ownBlock = some g ∧ base ≤ g ∧ (∀ j u, (xs.flatMap f)[j]? = some u → w.cell? ⟨g, j, none⟩ = some u) ∧ (∀ j, w.frozen? ⟨g, j, none⟩ = false) ∧ xs.length ≤ cap ∧ cap ≤ 9223372036854775807 := by
  have h0 := h
  obtain ⟨h1, h2⟩ := h
  rcases h2 with ⟨rfl, hn⟩ | ⟨g, cap, cur, rfl, hb, hg, hle, hcm, hcs, ht⟩
  · omega
  · refine ⟨g, cap, rfl, rfl, hb, fun j u hu => ?_, free_of hg, hle, by simpa only [maxLen] using hcm⟩
    have := World.ownsRow.cells h0 (g := g) rfl j u hu
    rw [Addr.add_lit] at this
    simpa using this

theorem _root_.Cdk.Own.none_cap (h : Own w base e size f v xs) {n cap : Nat} (hv : v = .slice none n cap) : cap = 0 := by
  rcases h.2 with ⟨h2, hn⟩ | ⟨g, c, cur, h2, _⟩
  · rw [hv] at h2; injection h2
  · rw [hv] at h2; injection h2 with h2; cases h2
end
end Go.Proofs.Ytncmhcfhbogjnaa
