import Derived.Test.YtpgniljgaknlpaaGreatDoorK33
import Derived.Laws.IdiomCopy
/-
  Writes that keep each cell's kind: what ParserMemory does to the nodes that were parsed first.
-/
namespace Go.Proofs.YtpgniljgaknlpaaGreatDoor
open Go.RowKit Cdk Tpl

/-- A cell that held v holds v' now: a text where a text was, a number where a number was; a slice stays, or has become nil. -/
def Kd (v v' : Value) : Prop := match v with
  | .string _ => ∃ b, v' = .string b
  | .int k _ => ∃ z, v' = .int k z
  | .slice a n c => v' = .slice a n c ∨ v' = .slice none 0 0
  | _ => v' = v

theorem Kd.refl (v : Value) : Kd v v := by
  unfold Kd
  split
  · exact ⟨_, rfl⟩
  · exact ⟨_, rfl⟩
  · exact .inl rfl
  · rfl

/-- From w0 to w only blocks from base on have changed; each cell has kept its kind; nothing has been frozen. -/
structure KR (base : Nat) (w0 w : World) : Prop where
  mod : Mod (fun k => base ≤ k) w0 w
  cells : ∀ a v, w0.cell? a = some v → ∃ v', w.cell? a = some v' ∧ Kd v v'
  thaw : ∀ b, Thaw w0 b → Thaw w b

theorem KR.refl (base : Nat) (w : World) : KR base w w := ⟨Mod.refl _ _, fun _ v h => ⟨v, h, Kd.refl v⟩, fun _ h => h⟩

theorem Thaw.setCell {w : World} {b : Nat} (h : Thaw w b) (a : Addr) (u : Value) : Thaw (w.setCell a u) b := by
  by_cases e : b = a.block
  · subst e
    obtain ⟨c, t, hc⟩ := h
    refine ⟨if a.spot.isSome then c else c.setIfInBounds a.off u, t, ?_⟩
    simp only [World.setCell, Array.getElem?_modify]
    rw [hc]
    simp
  · obtain ⟨c, t, hc⟩ := h
    exact ⟨c, t, by rw [Below.heap_setCell w a u b e]; exact hc⟩

theorem Thaw.free {w : World} {b : Nat} (h : Thaw w b) (i : Nat) : w.frozen? ⟨b, i, none⟩ = false := by
  obtain ⟨c, t, hc⟩ := h
  simp [World.frozen?, hc]

theorem KR.set {base : Nat} {w0 w : World} (h : KR base w0 w) {b off : Nat} {v u : Value} (hc : w0.cell? ⟨b, off, none⟩ = some v) (hk : Kd v u) (hb : base ≤ b) : KR base w0 (w.setCell ⟨b, off, none⟩ u) := by
  refine ⟨h.mod.setCell (fun _ => hb) u, fun a x hx => ?_, fun b' hb' => (h.thaw b' hb').setCell _ _⟩
  by_cases e : a = ⟨b, off, none⟩
  · subst e
    rw [hc] at hx
    injection hx with hx
    subst hx
    obtain ⟨v', hv', -⟩ := h.cells _ _ hc
    exact ⟨u, World.cell?_setCell_same _ _ _ hv', hk⟩
  · obtain ⟨x', hx', hk'⟩ := h.cells a x hx
    exact ⟨x', by rw [World.cell?_setCell_other _ _ _ _ (fun e' => e e'.symm)]; exact hx', hk'⟩

theorem KR.sets {base : Nat} {w0 : World} {b : Nat} (hb : base ≤ b) : ∀ (us : List Value) (w : World) (off : Nat), KR base w0 w → (∀ j u, us[j]? = some u → ∃ v, w0.cell? ⟨b, off + j, none⟩ = some v ∧ Kd v u) → KR base w0 (w.setCells b off us)
  | [], _, _, h, _ => h
  | u :: r, w, off, h, hv => by
    obtain ⟨v, hc, hk⟩ := hv 0 u rfl
    exact KR.sets hb r _ (off + 1) (h.set hc hk hb) (fun j u' hu => by
      have := hv (j + 1) u' (by simpa using hu)
      rwa [show off + (j + 1) = off + 1 + j by omega] at this)

theorem KR.str {base : Nat} {w0 w : World} (h : KR base w0 w) {a : Addr} {s : ByteArray} (hc : w0.cell? a = some (.string s)) : ∃ s', w.cell? a = some (.string s') := by
  obtain ⟨v, hv, b, rfl⟩ := h.cells _ _ hc
  exact ⟨b, hv⟩

theorem KR.sl {base : Nat} {w0 w : World} (h : KR base w0 w) {a : Addr} {x : Option Addr} {n c : Nat} (hc : w0.cell? a = some (.slice x n c)) : w.cell? a = some (.slice x n c) ∨ w.cell? a = some (.slice none 0 0) := by
  obtain ⟨v, hv, hk⟩ := h.cells _ _ hc
  rcases hk with rfl | rfl
  · exact .inl hv
  · exact .inr hv
end Go.Proofs.YtpgniljgaknlpaaGreatDoor
