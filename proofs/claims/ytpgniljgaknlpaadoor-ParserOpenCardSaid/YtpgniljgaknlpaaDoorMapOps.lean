/-
  The laws on maps in the form that the walk takes.
-/
import Derived.Test.YtpgniljgaknlpaaDoorRows0
import Derived.Maps.OwnOps
import Derived.Maps.OwnSet
import Derived.Maps.RangeWalk
namespace Cdk
open Go Go.RowKit
set_option linter.unusedSectionVars false

section
variable {K : Type} [DecidableEq K] {P : Program} {kt : TypeId} {mk : K → Value} {ops : Array Oper} {rest : List Oper} {o : Oper} {a : Act} {Q : Exit → Act → World → Prop} {w : World} {mb r : Nat} {d : List (K × Value)} {seen : List K}

theorem wpList_update (hg : o.guard = none) (m x v : Operand) (t e : TypeId) (hop : o.op = Op.mapUpdate t m x v) (ok : KeyOk P kt mk) (ht : P.underlying t = some (.map kt e))
    (h : MapAt w mk mb d) (k : K) (val : Value) (hm : a.eval m = .map (some mb)) (hx : a.eval x = mk k) (hv : a.eval v = val)
    (hK : ∀ w', Hid (MapAt w' mk mb (upd d k val) ∧ Mod (Eq mb) w w' ∧ w'.heap.size = w.heap.size) → wpList P ops Q rest (a.put o.dst undef) w') : wpList P ops Q (o :: rest) a w := by
  refine wpList_plain hg fun K' hK' => ?_
  obtain ⟨w', hrun, r1, r2, r3⟩ := run_updateM ok ht h k val
  unfold Oper.wp
  simp [execOp, hop, hm, hx, hv, hrun, Result.andThen]
  exact hK' _ _ (hK w' ⟨r1, r2, r3⟩)

theorem wpList_update_iter (hg : o.guard = none) (m x v : Operand) (t e : TypeId) (hop : o.op = Op.mapUpdate t m x v) (ok : KeyOk P kt mk) (ht : P.underlying t = some (.map kt e))
    (h : IterAt w mk mb r d seen) (k : K) (val : Value) (hin : (assoc d k).isSome = true) (hm : a.eval m = .map (some mb)) (hx : a.eval x = mk k) (hv : a.eval v = val)
    (hK : ∀ w', Hid (IterAt w' mk mb r (upd d k val) seen ∧ Mod (Eq mb) w w' ∧ w'.heap.size = w.heap.size) → wpList P ops Q rest (a.put o.dst undef) w') : wpList P ops Q (o :: rest) a w := by
  refine wpList_plain hg fun K' hK' => ?_
  obtain ⟨w', hrun, r1, r2, r3⟩ := run_update_iter ok ht h k val hin
  unfold Oper.wp
  simp [execOp, hop, hm, hx, hv, hrun, Result.andThen]
  exact hK' _ _ (hK w' ⟨r1, r2, r3⟩)

theorem wpList_delete (hg : o.guard = none) (m x : Operand) (t e kt' : TypeId) (hop : o.op = Op.call { callee := Callee.builtin Builtin.delete, args := #[m, x], argTypes := #[t, kt'] }) (ok : KeyOk P kt mk) (ht : P.underlying t = some (.map kt e))
    (h : MapAt w mk mb d) (k : K) (hm : a.eval m = .map (some mb)) (hx : a.eval x = mk k)
    (hK : ∀ w', Hid (MapAt w' mk mb (del d k) ∧ Mod (Eq mb) w w' ∧ w'.heap.size = w.heap.size) → wpList P ops Q rest (a.put o.dst (.tuple #[])) w') : wpList P ops Q (o :: rest) a w := by
  refine wpList_plain hg fun K' hK' => ?_
  obtain ⟨w', hrun, r1, r2, r3⟩ := run_deleteM (ty := o.type) (kt' := kt') ok ht h k
  unfold Oper.wp
  simp [execOp, hop, resolve, invoke, builtin, hm, hx, hrun, Result.andThen]
  exact hK' _ _ (hK w' ⟨r1, r2, r3⟩)

theorem wpList_delete_iter (hg : o.guard = none) (m x : Operand) (t e kt' : TypeId) (hop : o.op = Op.call { callee := Callee.builtin Builtin.delete, args := #[m, x], argTypes := #[t, kt'] }) (ok : KeyOk P kt mk) (ht : P.underlying t = some (.map kt e))
    (h : IterAt w mk mb r d seen) (k : K) (hm : a.eval m = .map (some mb)) (hx : a.eval x = mk k)
    (hK : ∀ w', Hid (IterAt w' mk mb r (del d k) seen ∧ Mod (Eq mb) w w' ∧ w'.heap.size = w.heap.size) → wpList P ops Q rest (a.put o.dst (.tuple #[])) w') : wpList P ops Q (o :: rest) a w := by
  refine wpList_plain hg fun K' hK' => ?_
  obtain ⟨w', hrun, r1, r2, r3⟩ := run_delete_iter (ty := o.type) (kt' := kt') ok ht h k
  unfold Oper.wp
  simp [execOp, hop, resolve, invoke, builtin, hm, hx, hrun, Result.andThen]
  exact hK' _ _ (hK w' ⟨r1, r2, r3⟩)

theorem wpList_range (hg : o.guard = none) (m : Operand) (t e : TypeId) (hop : o.op = Op.range t m) (ht : P.underlying t = some (.map kt e))
    (h : MapAt w mk mb d) (hm : a.eval m = .map (some mb))
    (hK : ∀ w', Hid (IterAt w' mk mb w.heap.size d [] ∧ Ext w w' ∧ w'.heap.size = w.heap.size + 1) → wpList P ops Q rest (a.put o.dst (.pointer (some ⟨w.heap.size, 0, none⟩))) w') : wpList P ops Q (o :: rest) a w := by
  refine wpList_plain hg fun K' hK' => ?_
  obtain ⟨w', hrun, r1, r2, r3⟩ := run_rangeM (P := P) ht h
  unfold Oper.wp
  simp [execOp, hop, hm, hrun, Result.andThen]
  exact hK' _ _ (hK w' ⟨r1, r2, r3⟩)

theorem wpList_next (hg : o.guard = none) (it : Operand) (hop : o.op = Op.next it false) (inj : ∀ a b, mk a = mk b → a = b)
    (h : IterAt w mk mb r d seen) (hm : a.eval it = .pointer (some ⟨r, 0, none⟩))
    (hover : Hid (∀ p ∈ d, p.1 ∈ seen) → wpList P ops Q rest (a.put o.dst (.tuple #[.bool false])) w)
    (hnext : ∀ k v w', Hid ((k, v) ∈ d ∧ k ∉ seen ∧ IterAt w' mk mb r d (k :: seen) ∧ Mod (Eq r) w w' ∧ w'.heap.size = w.heap.size) → wpList P ops Q rest (a.put o.dst (.tuple #[.bool true, mk k, v])) w') : wpList P ops Q (o :: rest) a w := by
  refine wpList_plain hg fun K' hK' => ?_
  rcases run_nextM (P := P) h inj o.type with ⟨hall, hrun⟩ | ⟨k, v, w', h1, h2, hrun, h3, h4, h5⟩
  · unfold Oper.wp
    simp [execOp, hop, hm, hrun, Result.andThen]
    exact hK' _ _ (hover hall)
  · unfold Oper.wp
    simp [execOp, hop, hm, hrun, Result.andThen]
    exact hK' _ _ (hnext k v w' ⟨h1, h2, h3, h4, h5⟩)

/-- The pairs come of a list of data. -/
theorem wpList_nextL {α : Type} {l : List α} {f : α → K × Value} (hg : o.guard = none) (it : Operand) (hop : o.op = Op.next it false) (inj : ∀ a b, mk a = mk b → a = b)
    (h : IterAt w mk mb r (l.map f) seen) (hm : a.eval it = .pointer (some ⟨r, 0, none⟩))
    (hover : Hid (∀ q ∈ l, (f q).1 ∈ seen) → wpList P ops Q rest (a.put o.dst (.tuple #[.bool false])) w)
    (hnext : ∀ q w', Hid (q ∈ l ∧ (f q).1 ∉ seen ∧ IterAt w' mk mb r (l.map f) ((f q).1 :: seen) ∧ Mod (Eq r) w w' ∧ w'.heap.size = w.heap.size) → wpList P ops Q rest (a.put o.dst (.tuple #[.bool true, mk (f q).1, (f q).2])) w') : wpList P ops Q (o :: rest) a w := by
  refine wpList_next hg it hop inj h hm (fun H => hover fun q hq => H.out _ (List.mem_map_of_mem hq)) (fun k v w' H => ?_)
  obtain ⟨h1, h2, h3, h4, h5⟩ := H.out
  obtain ⟨q, hq, he⟩ := List.mem_map.1 h1
  have e1 : (f q).1 = k := by rw [he]
  have e2 : (f q).2 = v := by rw [he]
  subst e1; subst e2
  exact hnext q w' ⟨hq, h2, h3, h4, h5⟩

theorem entryL {α : Type} {l : List α} {f : α → K × Value} {q : α} (h : IterAt w mk mb r (l.map f) ((f q).1 :: seen)) (hq : q ∈ l) :
    (Instr.entry (.pointer (some ⟨r, 0, none⟩))).run P w = .ok (.tuple #[mk (f q).1, (f q).2]) w := run_entryM h (List.mem_map_of_mem hq)

/-- How many are still to come. -/
def restL {α : Type} (l : List α) (f : α → K × Value) (seen : List K) : Nat := (l.filter (fun q => !decide ((f q).1 ∈ seen))).length
theorem restL_lt {α : Type} {l : List α} {f : α → K × Value} {q : α} (hq : q ∈ l) (hn : (f q).1 ∉ seen) : restL l f ((f q).1 :: seen) < restL l f seen := by
  unfold restL
  have : l.filter (fun p => !decide ((f p).1 ∈ (f q).1 :: seen)) = (l.filter (fun p => !decide ((f p).1 ∈ seen))).filter (fun p => !decide ((f p).1 = (f q).1)) := by
    rw [List.filter_filter]
    apply List.filter_congr
    intro p _
    by_cases h1 : (f p).1 = (f q).1 <;> by_cases h2 : (f p).1 ∈ seen <;> simp [h1, h2]
  rw [this]
  apply List.length_filter_lt_length_iff_exists.2
  exact ⟨q, List.mem_filter.2 ⟨hq, by simpa using hn⟩, by simp⟩

end
end Cdk
