/-
  'append' onto a slice of the call's own, in a form of our own: the slice holds the elements xs, 'f' gives an element's cells.
-/
import Derived.Test.YtpgniljgaknlpaaDoorMapOps
import Derived.Laws.AppendOwnNone
namespace Cdk
open Go Go.RowKit

/-- The element type's row of the table. -/
structure El (P : Program) (e : TypeId) (z : Value) (size bytes : Nat) : Prop where
  row : (P.info? e).map (fun i => (i.zero, i.size, i.bytes)) = some (some z, size, bytes)
  cells : z.cells.size = size
  pos : 0 < size
  small : bytes ≤ 1024

section
variable {α : Type} {P : Program} {f : α → List Value} {base : Nat} {e : TypeId} {z : Value} {size bytes : Nat} {w w' : World} {v : Value} {xs : List α}

/-- v is a slice of the call's own (from block 'base' on) that holds xs. -/
def Own (w : World) (base : Nat) (e : TypeId) (size : Nat) (f : α → List Value) (v : Value) (xs : List α) : Prop := w.ownsRow base e size v xs.length (xs.flatMap f)

theorem Own.nil (w : World) (base : Nat) (e : TypeId) (size : Nat) (f : α → List Value) : Own w base e size f (.slice none 0 0) [] := World.ownsRow_nil w base e size

/-- An empty slice that is not nil. -/
theorem Own.empty {w : World} {base : Nat} {e : TypeId} {size : Nat} (f : α → List Value) (h : base ≤ w.heap.size) : Own (w.alloc (.cells #[] e)) base e size f (.slice (some ⟨w.heap.size, 0, none⟩) 0 0) [] :=
  World.ownsRow_made w #[] 0 h (Nat.zero_le _) (by simp)

theorem Own.weaken {base' : Nat} (h : Own w base e size f v xs) (hb : base' ≤ base) : Own w base' e size f v xs := by
  refine ⟨h.1, ?_⟩
  rcases h.2 with h2 | ⟨g, cap, cur, rfl, h3, h4⟩
  · exact .inl h2
  · exact .inr ⟨g, cap, cur, rfl, Nat.le_trans hb h3, h4⟩

theorem Own.mod {S : Nat → Prop} (h : Own w base e size f v xs) (hm : Mod S w w') (hs : ∀ k, v.ownBlock = some k → ¬ S k) : Own w' base e size f v xs := by
  refine ⟨h.1, ?_⟩
  rcases h.2 with h2 | ⟨g, cap, cur, rfl, h3, h4, h5⟩
  · exact .inl h2
  · exact .inr ⟨g, cap, cur, rfl, h3, hm.at h4 (hs g rfl), h5⟩

theorem Own.ext (h : Own w base e size f v xs) (hm : Ext w w') : Own w' base e size f v xs := h.mod hm (fun _ _ h => h)

theorem Own.block (h : Own w base e size f v xs) : ∀ k, v.ownBlock = some k → base ≤ k ∧ k < w.heap.size := World.ownsRow.lt h

/-- The value, and its cells. -/
theorem Own.row (h : Own w base e size f v xs) : ∃ ao cap, v = .slice ao xs.length cap ∧ RowIs w ao (xs.flatMap f) ∧ ∀ b off, ao = some ⟨b, off, none⟩ → v.ownBlock = some b := by
  rcases h.2 with ⟨rfl, hn⟩ | ⟨g, cap, cur, rfl, hb, hg, hle, hcm, hcs, ht⟩
  · have : xs = [] := List.eq_nil_of_length_eq_zero hn
    subst this
    exact ⟨none, 0, rfl, RowIs.nil _ _, by simp⟩
  · refine ⟨some ⟨g, 0, none⟩, cap, rfl, ?_, ?_⟩
    · intro j u hu
      refine ⟨g, 0, rfl, ?_⟩
      have := World.ownsRow.cells h (g := g) rfl j u hu
      rw [Addr.add_lit] at this
      exact this
    · intro b off he
      simp at he
      simp [Value.ownBlock, he.1]

/-- A block of cells is no map, and no iterator. -/
theorem Own.cells (h : Own w base e size f v xs) {k : Nat} (hk : v.ownBlock = some k) : ∃ c, w.heap[k]? = some (.cells c e (0, 0)) := by
  rcases h.2 with ⟨rfl, _⟩ | ⟨g, cap, cur, rfl, _, hg, _⟩
  · simp [Value.ownBlock] at hk
  · simp [Value.ownBlock] at hk; subst hk; exact ⟨cur, hg⟩

theorem Own.ne_map {K : Type} [DecidableEq K] {mk : K → Value} {m : Nat} {d : List (K × Value)} (h : Own w base e size f v xs) (hm : MapAt w mk m d) : v.ownBlock ≠ some m := by
  intro hk
  obtain ⟨c, hc⟩ := h.cells hk
  obtain ⟨es, cl, hh, _⟩ := hm
  rw [hc] at hh; simp at hh

theorem Own.ne_iter {K : Type} [DecidableEq K] {mk : K → Value} {m r : Nat} {d : List (K × Value)} {seen : List K} (h : Own w base e size f v xs) (hm : IterAt w mk m r d seen) : v.ownBlock ≠ some r := by
  intro hk
  obtain ⟨c, hc⟩ := h.cells hk
  obtain ⟨es, cl, sn, _, _, hh, _⟩ := hm
  rw [hc] at hh; simp at hh

theorem wp_app {o : Oper} {a : Act} {K : Act → World → Prop} {Q : Exit → Act → World → Prop} (s x : Operand) (t : TypeId)
    (ho : o.op = .call { callee := .builtin .append, args := #[s, x], argTypes := #[t, t] }) (ht : P.underlying t = some (.slice e)) (el : El P e z size bytes)
    (hs : a.eval s = v) (hown : Own w base e size f v xs) (ao : Option Addr) (m c : Nat) (hx : a.eval x = .slice ao m c) (ys : List α) (hm : ys.length = m) (hrow : RowIs w ao (ys.flatMap f))
    (hf : ∀ y, (f y).length = size) (h1 : ∀ y ∈ ys, ∀ u ∈ f y, u.oneCell' = true) (hlen : xs.length + ys.length ≤ 137438953472) (hbase : base ≤ w.heap.size) (hc : ao = none → c = 0)
    (hK : ∀ v' w', Hid (Own w' base e size f v' (xs ++ ys) ∧ Mod (fun k => v.ownBlock = some k) w w') → K (a.put o.dst v') w') : o.wp P a w K Q := by
  obtain ⟨i0, hi, hz0, hz1, hz2⟩ := info_parts el.row
  have hflat := fun l : List α => flat_length f size hf l
  cases ao with
  | some ad =>
    have hcells : ∀ j u, (ys.flatMap f)[j]? = some u → w.cell? (ad.add j) = some u := by
      intro j u hu
      obtain ⟨b, off, he, hcc⟩ := hrow j u hu
      simp only [Option.some.injEq] at he
      subst he
      rw [Addr.add_lit]
      exact hcc
    have hb : (xs.length + m) * bytes ≤ 140737488355328 := by
      have h1 := el.small
      have : (xs.length + m) * bytes ≤ 137438953472 * 1024 := Nat.mul_le_mul (by omega) h1
      omega
    refine wp_append_own w s x t ho base e i0 z size bytes ht hi hz0 hz1 hz2 el.cells el.pos v xs.length (xs.flatMap f) hs hown ad m c (ys.flatMap f) hx (by rw [hflat, hm]) hcells ?_ (by simp only [maxLen]; omega) hb hbase ?_
    · intro u hu
      obtain ⟨y, hy, hu⟩ := List.mem_flatMap.1 hu
      exact h1 y hy u hu
    · intro v' w' h2 h3 _
      refine hK v' w' ⟨?_, Mod.ofGrown h3 (fun k hk => hk)⟩
      subst hm
      unfold Own
      rw [List.length_append, List.flatMap_append]
      exact h2
  | none =>
    have hy : ys = [] := by
      cases ys with
      | nil => rfl
      | cons y ys =>
        exfalso
        have hp : 0 < ((y :: ys).flatMap f).length := by rw [hflat]; exact Nat.mul_pos (by simp) el.pos
        obtain ⟨b, off, he, _⟩ := hrow.at hp
        simp at he
    subst hy
    simp at hm
    subst hm
    have hc0 := hc rfl
    subst hc0
    have hrun := run_append_owned_none (P := P) w base t o.type e i0 size ht hi v xs.length (xs.flatMap f) hown
    unfold Oper.wp
    simp [execOp, ho, resolve, invoke, builtin, hs, hx, hrun, Result.andThen]
    exact hK v w ⟨by simpa using hown, Mod.refl _ _⟩

/-- In a walk. -/
theorem wpList_app {ops : Array Oper} {rest : List Oper} {o : Oper} {a : Act} {Q : Exit → Act → World → Prop} (hg : o.guard = none) (s x : Operand) (t : TypeId)
    (ho : o.op = .call { callee := .builtin .append, args := #[s, x], argTypes := #[t, t] }) (ht : P.underlying t = some (.slice e)) (el : El P e z size bytes)
    (hs : a.eval s = v) (hown : Own w base e size f v xs) (ao : Option Addr) (m c : Nat) (hx : a.eval x = .slice ao m c) (ys : List α) (hm : ys.length = m) (hrow : RowIs w ao (ys.flatMap f))
    (hf : ∀ y, (f y).length = size) (h1 : ∀ y ∈ ys, ∀ u ∈ f y, u.oneCell' = true) (hlen : xs.length + ys.length ≤ 137438953472) (hbase : base ≤ w.heap.size) (hc : ao = none → c = 0)
    (hK : ∀ v' w', Hid (Own w' base e size f v' (xs ++ ys) ∧ Mod (fun k => v.ownBlock = some k) w w') → wpList P ops Q rest (a.put o.dst v') w') : wpList P ops Q (o :: rest) a w :=
  wpList_plain hg fun _ hK' => wp_app s x t ho ht el hs hown ao m c hx ys hm hrow hf h1 hlen hbase hc (fun v' w' H => hK' _ _ (hK v' w' H))

/-- In a region that draws its order. -/
theorem step_app {ops : Array Oper} {o : Oper} {a : Act} {K : Act → World → Prop} {Q : Exit → Act → World → Prop} (hg : o.guard = none) (s x : Operand) (t : TypeId)
    (ho : o.op = .call { callee := .builtin .append, args := #[s, x], argTypes := #[t, t] }) (ht : P.underlying t = some (.slice e)) (el : El P e z size bytes)
    (hs : a.eval s = v) (hown : Own w base e size f v xs) (ao : Option Addr) (m c : Nat) (hx : a.eval x = .slice ao m c) (ys : List α) (hm : ys.length = m) (hrow : RowIs w ao (ys.flatMap f))
    (hf : ∀ y, (f y).length = size) (h1 : ∀ y ∈ ys, ∀ u ∈ f y, u.oneCell' = true) (hlen : xs.length + ys.length ≤ 137438953472) (hbase : base ≤ w.heap.size) (hc : ao = none → c = 0)
    (hK : ∀ v' w', Hid (Own w' base e size f v' (xs ++ ys) ∧ Mod (fun k => v.ownBlock = some k) w w') → K (a.put o.dst v') w') :
    if Region.wanted o (yielded ops a.tmps) = true then o.wp P a w K Q else K (a.put o.dst undef) w := by
  rw [if_pos (by simp [Region.wanted, hg])]
  exact wp_app s x t ho ht el hs hown ao m c hx ys hm hrow hf h1 hlen hbase hc hK

end
end Cdk
