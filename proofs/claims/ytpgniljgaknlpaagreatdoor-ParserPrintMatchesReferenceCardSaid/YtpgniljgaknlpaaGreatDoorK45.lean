import Derived.Test.YtpgniljgaknlpaaGreatDoorK25
/-
  Slices of nodes that are made, and to which others are appended.
-/
namespace Go.Proofs.YtpgniljgaknlpaaGreatDoor
open Go.RowKit Cdk Tpl

theorem wpList_app {α : Type} {P : Program} {f : α → List Value} {base : Nat} {e : TypeId} {z : Value} {size bytes : Nat} {w : World} {v : Value} {xs : List α} {ops : Array Oper} {rest : List Oper} {o : Oper} {a : Act} {Q : Exit → Act → World → Prop} (hg : o.guard = none) (s x : Operand) (t : TypeId)
    (ho : o.op = .call { callee := .builtin .append, args := #[s, x], argTypes := #[t, t] }) (ht : P.underlying t = some (.slice e)) (el : El P e z size bytes)
    (hs : a.eval s = v) (hown : Cdk.Own w base e size f v xs) (ao : Option Addr) (m c : Nat) (hx : a.eval x = .slice ao m c) (ys : List α) (hm : ys.length = m) (hrow : RowIs w ao (ys.flatMap f))
    (hf : ∀ y, (f y).length = size) (h1 : ∀ y ∈ ys, ∀ u ∈ f y, u.oneCell' = true) (hlen : xs.length + ys.length ≤ 137438953472) (hbase : base ≤ w.heap.size) (hc : ao = none → c = 0)
    (hK : ∀ v' w', Hid (Cdk.Own w' base e size f v' (xs ++ ys) ∧ Mod (fun k => v.ownBlock = some k) w w') → wpList P ops Q rest (a.put o.dst v') w') : wpList P ops Q (o :: rest) a w :=
  wpList_plain hg fun _ hK' => wp_app s x t ho ht el hs hown ao m c hx ys hm hrow hf h1 hlen hbase hc (fun v' w' H => hK' _ _ (hK v' w' H))

/-- 'make([]T, 0, n)'. -/
theorem wpList_mk {α : Type} {P : Program} (f : α → List Value) {base : Nat} {e : TypeId} {z : Value} {size bytes : Nat} {w : World} {ops : Array Oper} {rest : List Oper} {o : Oper} {a : Act} {Q : Exit → Act → World → Prop} (hg : o.guard = none) (l c : Operand) (t : TypeId)
    (ho : o.op = Op.makeSlice t l c) (ht : P.underlying t = some (.slice e)) (el : El P e z size bytes) (n : Nat) (hl : a.eval l = .int .i64 0) (C : Int) (hc : a.eval c = .int .i64 C) (hC : C = (n : Int)) (hn : n ≤ 137438953472) (hbase : base ≤ w.heap.size)
    (hK : ∀ v w', Hid (Cdk.Own w' base e size f v ([] : List α) ∧ Ext w w') → wpList P ops Q rest (a.put o.dst v) w') : wpList P ops Q (o :: rest) a w := by
  obtain ⟨i0, hi, hz0, hz1, hz2⟩ := info_parts el.row
  refine wpList_make_own w hg l c t ho base e i0 z size ht hi hz0 hz1 .i64 .i64 C n hl hc hC ?_ ?_ hbase (fun w' h1 h2 => hK _ w' ⟨h1, Mod.ofGrown h2 (fun k hk => by cases hk)⟩)
  · rw [hz2]
    have := el.small
    exact Nat.le_trans (Nat.mul_le_mul this hn) (by decide)
  · exact Nat.le_trans hn (by decide)

theorem RowsAt.app {F : Nat → Prop} {w : World} : ∀ {r1 r2 : List NC} {l1 l2 : List Nd}, RowsAt F w r1 l1 → RowsAt F w r2 l2 → RowsAt F w (r1 ++ r2) (l1 ++ l2)
  | _, _, _, _, .nil, h => h
  | _, _, _, _, .cons c n r l h1 h2, h => .cons c n _ _ h1 (RowsAt.app h2 h)

/-- The nodes of a slice, as rows. -/
theorem NodesAt.rows {F : Nat → Prop} {w : World} {ao : Option Addr} {n cap : Nat} {l : List Nd} (h : NodesAt F w (.slice ao n cap) l) : ∃ rows : List NC, n = rows.length ∧ RowIs w ao (rows.flatMap ncC) ∧ RowsAt F w rows l ∧ CapOk ao n cap := by
  cases h with
  | mk _ _ rows _ h1 _ h3 h4 => exact ⟨rows, rfl, h1, h3, h4⟩
theorem RowsAt.one {F : Nat → Prop} {w : World} : ∀ {rows : List NC} {l : List Nd}, RowsAt F w rows l → ∀ y ∈ rows, ∀ u ∈ ncC y, u.oneCell' = true
  | _, _, .nil => by simp
  | _, _, .cons c n r l h1 h2 => by
    intro y hy
    rcases List.mem_cons.1 hy with rfl | hy
    · exact h1.one
    · exact RowsAt.one h2 y hy

/-- What was appended to a slice of the call's own, as nodes. -/
theorem Own.nodes {F : Nat → Prop} {w : World} {base : Nat} {v : Value} {rows : List NC} {l : List Nd} (h : Cdk.Own w base 36 8 ncC v rows) (hr : RowsAt F w rows l) (hF : ∀ k, F k → k < w.heap.size) : NodesAt (Lo w) w v l := by
  have ho := h
  obtain ⟨ao, cap, rfl, h1, h2⟩ := h.row
  exact .mk ao cap rows l h1 (fun b off e => (h.block b (h2 b off e)).2) (hr.mono hF) (Own.capOk ho)

/-- What the call's own slice grows by is new. -/
theorem Ext.grow {α : Type} {f : α → List Value} {e : TypeId} {size : Nat} {w w2 w3 : World} {v : Value} {xs : List α} (hx : Ext w w2) (h : Cdk.Own w2 w.heap.size e size f v xs) (hm : Mod (fun k => v.ownBlock = some k) w2 w3) : Ext w w3 :=
  ⟨hm.os.trans hx.os, hm.tape.trans hx.tape, hm.output.trans hx.output, Nat.le_trans hx.size hm.size, fun k hk hs => (hm.block k (Nat.lt_of_lt_of_le hk hx.size) (fun e => by have := (h.block k e).1; omega)).trans (hx.block k hk hs)⟩

end Go.Proofs.YtpgniljgaknlpaaGreatDoor
