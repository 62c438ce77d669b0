import Derived.Test.YtpgniljgaknlpaaGreatDoorK45
/-
  Slices of nodes of the call's own: a cell is written; nodes that have just been made, with a footprint of one's choice.
-/
namespace Go.Proofs.YtpgniljgaknlpaaGreatDoor
open Go.RowKit Cdk Tpl

theorem flat_set {α : Type} (f : α → List Value) (size : Nat) (hf : ∀ x, (f x).length = size) {j : Nat} {y : α} {u : Value} (hj : j < size) : ∀ (xs : List α) (i : Nat) (x : α), xs[i]? = some x → f y = (f x).set j u → (xs.flatMap f).set (i * size + j) u = (xs.set i y).flatMap f
  | [], i, x, h, _ => by simp at h
  | a :: t, 0, x, h, hy => by
    simp only [List.getElem?_cons_zero, Option.some.injEq] at h
    subst h
    simp only [List.flatMap_cons, List.set_cons_zero, Nat.zero_mul, Nat.zero_add]
    rw [List.set_append_left _ _ (by rw [hf]; exact hj), hy]
  | a :: t, i + 1, x, h, hy => by
    simp only [List.getElem?_cons_succ] at h
    simp only [List.flatMap_cons, List.set_cons_succ]
    have e : (i + 1) * size + j = size + (i * size + j) := by rw [Nat.succ_mul]; omega
    rw [e, List.set_append_right _ _ (by rw [hf]; omega), hf, Nat.add_sub_cancel_left, flat_set f size hf hj t i x h hy]

/-- A cell of a slice of the call's own is written. -/
theorem Own.put {α : Type} {f : α → List Value} {base : Nat} {e : TypeId} {size : Nat} {w : World} {v : Value} {xs : List α} (h : Cdk.Own w base e size f v xs) (hf : ∀ y, (f y).length = size) {i j : Nat} {x y : α} {u : Value} {g : Nat} (hg : v.ownBlock = some g)
    (hx : xs[i]? = some x) (hj : j < size) (hy : f y = (f x).set j u) : Cdk.Own (w.setCell ⟨g, i * size + j, none⟩ u) base e size f v (xs.set i y) := by
  refine ⟨by rw [flat_length f size hf], ?_⟩
  rcases h.2 with ⟨rfl, hn⟩ | ⟨g', cap, cur, rfl, hb, hh, hle, hcm, hcs, ht⟩
  · simp [Value.ownBlock] at hg
  · simp only [Value.ownBlock, Option.some.injEq] at hg
    subst hg
    refine .inr ⟨g', cap, cur.setIfInBounds (i * size + j) u, by rw [List.length_set], hb, put_at hh _ u, by rw [List.length_set]; exact hle, hcm, by simpa using hcs, ?_⟩
    rw [Array.toList_setIfInBounds, List.take_set, List.length_set, ht, flat_set f size hf hj xs i x hx hy]

theorem Own.at {α : Type} {f : α → List Value} {base : Nat} {e : TypeId} {size : Nat} {w : World} {xs : List α} {g n cap : Nat} (h : Cdk.Own w base e size f (.slice (some ⟨g, 0, none⟩) n cap) xs) : ∃ cur, w.heap[g]? = some (.cells cur e (0, 0)) := h.cells rfl

theorem RowsAt.set {F : Nat → Prop} {w : World} : ∀ {rows : List NC} {l : List Nd} {i : Nat} {c : NC} {n : Nd}, RowsAt F w rows l → NodeAt F w c n → RowsAt F w (rows.set i c) (l.set i n)
  | _, _, _, _, _, .nil, _ => .nil
  | _, _, 0, c, n, .cons _ _ r l _ h2, h => .cons c n r l h h2
  | _, _, i + 1, _, _, .cons c n r l h1 h2, h => .cons c n _ _ h1 (RowsAt.set h2 h)

theorem Own.slice {α : Type} {f : α → List Value} {base : Nat} {e : TypeId} {size : Nat} {w : World} {v : Value} {xs : List α} (h : Cdk.Own w base e size f v xs) (hp : 0 < xs.length) : ∃ g cap cur, v = .slice (some ⟨g, 0, none⟩) xs.length cap ∧ base ≤ g ∧ w.heap[g]? = some (.cells cur e (0, 0)) := by
  rcases h.2 with ⟨rfl, hn⟩ | ⟨g', cap, cur, rfl, hb, hh, -⟩
  · omega
  · exact ⟨g', cap, cur, rfl, hb, hh⟩
theorem Own.cell {α : Type} {f : α → List Value} {base : Nat} {e : TypeId} {size : Nat} {w : World} {xs : List α} {g n cap : Nat} (h : Cdk.Own w base e size f (.slice (some ⟨g, 0, none⟩) n cap) xs) {i j : Nat} {x : α} (hx : xs[i]? = some x) (hf : ∀ y, (f y).length = size) (hj : j < size) : w.cell? ⟨g, i * size + j, none⟩ = (f x)[j]? := by
  have hlt : j < (f x).length := by rw [hf]; exact hj
  have g1 := flat_get f size hf xs i j x hx hj
  rw [List.getElem?_eq_getElem hlt] at g1 ⊢
  have := World.ownsRow.cells h (g := g) rfl _ _ g1
  rwa [Addr.add_lit, Nat.zero_add] at this
/-- What was appended to a slice of the call's own, as nodes, with a footprint. -/
theorem Own.nodesF {F : Nat → Prop} {w : World} {base : Nat} {v : Value} {rows : List NC} {l : List Nd} (h : Cdk.Own w base 36 8 ncC v rows) (hr : RowsAt F w rows l) (hF : ∀ k, base ≤ k → k < w.heap.size → F k) : NodesAt F w v l := by
  have ho := h
  obtain ⟨ao, cap, rfl, h1, h2⟩ := h.row
  exact .mk ao cap rows l h1 (fun b off e => hF b (h.block b (h2 b off e)).1 (h.block b (h2 b off e)).2) hr (Own.capOk ho)

theorem NodesAt.madeF {G : Nat → Prop} {w : World} (rows : List NC) (l : List Nd) (cs : List Value) (n b : Nat) (hcs : cs = rows.flatMap ncC) (hn : n = rows.length) (hbs : b = w.heap.size) (h : RowsAt G w rows l) (hb : G b) : NodesAt G (w.alloc (.cells cs.toArray 36)) (.slice (some ⟨b, 0, none⟩) n n) l := by
  subst hcs
  subst hn
  subst hbs
  have hx := Mod.alloc (Mod.refl (fun _ => False) w) (.cells (rows.flatMap ncC).toArray 36)
  refine .mk _ _ rows l (RowIs.new w _ _) (fun b off e => ?_) (h.mod hx (fun _ _ h => h)) (.some _ _)
  injection e with e; injection e with e _ _
  subst e
  exact hb

theorem StrsAt.madeF {G : Nat → Prop} {w : World} (l : List Bs) (cs : List Value) (n b : Nat) (hcs : cs = l.flatMap strC) (hn : n = l.length) (hbs : b = w.heap.size) (hb : G b) : StrsAt G (w.alloc (.cells cs.toArray 9)) (.slice (some ⟨b, 0, none⟩) n n) l := by
  subst hcs
  subst hn
  subst hbs
  refine ⟨_, _, rfl, RowIs.new w _ _, fun b off e => ?_, .some _ _⟩
  injection e with e; injection e with e _ _
  subst e
  exact hb
end Go.Proofs.YtpgniljgaknlpaaGreatDoor
