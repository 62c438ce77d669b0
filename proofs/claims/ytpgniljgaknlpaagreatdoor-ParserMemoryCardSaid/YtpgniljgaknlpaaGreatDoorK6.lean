import Derived.RangeFuncNested
import Derived.RangeFuncBound
import Derived.RangeFuncCalls
import Derived.RangeFuncLeaves
import Derived.RangeFuncBox
import Derived.Shelf.Abstract
import Derived.Shelf.RegionOpen
import Derived.WalkKit
import Derived.OwnWalkIn
import Derived.TacticsInMore
/-
  A range over a function whose iterator makes cells of its own between the rounds: a round leaves alone what was made since the bound M; the loop's variable lies in a box.
-/
namespace Cdk
open Go Go.RowKit

def SeqT {α : Type} (F : Fence) (n : Nat) (P : Program) (g : Nat) (lb : Array Value) (encs : α → Array Value) (Kb : Nat → Prop) (S Sp : List α → Prop) (N : Nat) (w : World) : Prop :=
  ∀ (l : Nat) (J : List α → Nat → World → Prop) (Jx : List α → World → Prop) (W : World), Below w.heap.size w W → (∀ p M A B, J p M A → A.grownBy B none → J p M B) →
    (∀ pre x M W1, J pre M W1 → M ≤ W1.heap.size → pre.length < N → YieldAt F (n - 1) P l (encs x) W1 fun e W' =>
      (e = .returned (.bool true) ∧ (∃ M', M' ≤ W'.heap.size ∧ J (pre ++ [x]) M' W') ∧ (W1.heap.size ≤ W'.heap.size ∧ ∀ k, Kb k → W'.heap[k]? = W1.heap[k]?) ∧ ∀ k, M ≤ k → k < W1.heap.size → W'.heap[k]? = W1.heap[k]?) ∨ (e = .returned (.bool false) ∧ Jx (pre ++ [x]) W')) →
    J [] W.heap.size W →
    CallsIn F n P g (#[.func (.yield l) #[] #[]] ++ lb) W fun e W' => (∃ v, e = .returned v) ∧ ((∃ xs M, S xs ∧ J xs M W') ∨ (∃ pre, Sp pre ∧ Jx pre W'))

/-- How the body of a round may be left. -/
def postT {α : Type} (Kb : Nat → Prop) (M B : Nat) (I : List α → Nat → World → Prop) (Ix : Code → List α → World → Prop) (xs : List α) (W : World) : Exit → Act → World → Prop
  | .normal, _, W' => KeepsOthers W W' ∧ (∀ k, Kb k → W'.heap[k]? = W.heap[k]?) ∧ (∀ k, M ≤ k → k < B → W'.heap[k]? = W.heap[k]?) ∧ I xs W'.heap.size W'
  | .ret, _, W' => KeepsOthers W W' ∧ Ix .ret xs W'
  | .exit id, _, W' => KeepsOthers W W' ∧ Ix (.exit id) xs W'
  | .goto t, _, W' => KeepsOthers W W' ∧ Ix (.goto t) xs W'
  | .panic _, _, _ => False
  | .outgrown, _, _ => False

variable {F : Fence} {n : Nat} {P : Program}

theorem wpIn_rangeFunc_T {α : Type} {g : Operand} {ps : Array Tmp} {assign body : Code} {Q : Exit → Act → World → Prop} {a : Act} {w : World}
    (hro : F.round = none) (h1 : 1 ≤ n) {gf : Nat} {lb : Array Value} (hg : a.eval g = .func (.func gf) #[] lb) (hFg : F.fn gf) (eg : ∀ args w, (callFunc gf args).run P w = .ok (.enter gf args) w)
    {encs : α → Array Value} {Kb : Nat → Prop} {S Sp : List α → Prop} {N : Nat} {w0 : World} (hseq : SeqT F (n - 1) P gf lb encs Kb S Sp N w0) (hKb : ∀ k, Kb k → k < w.heap.size) (hb0 : Below w0.heap.size w0 w) (hps : ∀ x, (encs x).size = ps.size)
    (I : List α → Nat → World → Prop) (Ix : Code → List α → World → Prop) (hI : ∀ M, OwnFrom w.heap.size (fun p W => I p M W)) (hIx : ∀ c, OwnFrom w.heap.size (Ix c)) (h0 : I [] (w.heap.size + 2) w)
    (bx : α → Array Value) (bt : TypeId) (a₁ : α → Nat → Act)
    (hassign : ∀ (l : Nat) (x : α) (W : World) (K : Act → World → Prop), K (a₁ x W.heap.size) (W.alloc (.cells (bx x) bt)) →
      assign.wpIn (F.inRound l) (n - 1 - 1) P (Exit.then K (fun _ _ _ => False)) { tmps := (ps.zip (encs x)).foldl (fun t (p, v) => t.setIfInBounds p v) a.tmps, defers := [] } W)
    (hbody : ∀ (l : Nat) (pre : List α) (x : α) (M B : Nat) (W : World), I pre M W → M ≤ B → w.heap.size + 2 ≤ M → B < W.heap.size → W.heap[B]? = some (.cells (bx x) bt (0, 0)) → pre.length < N →
      body.wpIn (F.inRound l) (n - 1 - 1) P (postT Kb M B I Ix (pre ++ [x]) W) (a₁ x B) W)
    (hdone : ∀ (D : Nat) (xs : List α) (M : Nat) (W : World), w.heap.size ≤ D → S xs → I xs M W → W.heap[D]? = some (.deferred (some [])) → Q .normal { a with defers := { target := .collected D, args := #[] } :: a.defers } W)
    (hstop : ∀ (D : Nat) (c : Code) (pre : List α) (W : World), w.heap.size ≤ D → Sp pre → Ix c pre W → W.heap[D]? = some (.deferred (some [])) → c.wpIn F n P Q { a with defers := { target := .collected D, args := #[] } :: a.defers } W) :
    (Code.rangeFunc g ps assign body).wpIn F n P Q a w := by
  refine wpIn_rangeFunc ?_
  intro fn hfn
  rw [hro]
  obtain ⟨rec, hrec⟩ : ∃ rec : LoopState → Option Code → Loop, rec = fun st pe => { state := st, pending := pe, fn, tmps := a.tmps, params := ps, assign, body, defers := w.heap.size } := ⟨_, rfl⟩
  obtain ⟨W1, hW1⟩ : ∃ W1, (w.alloc (.deferred (some []))).alloc (.loop (rec .ready none)) = W1 := ⟨_, rfl⟩
  have hsz1 : W1.heap.size = w.heap.size + 2 := by rw [← hW1]; simp
  have hL1 : W1.heap[w.heap.size + 1]? = some (.loop (rec .ready none)) := by
    rw [← hW1]; have := World.alloc_heap_new (w.alloc (.deferred (some []))) (.loop (rec .ready none)); rwa [World.size_alloc] at this
  have hK1 : W1.heap[w.heap.size]? = some (.deferred (some [])) := by
    rw [← hW1]; exact (Below.heap_alloc _ _ _ (by simp)).trans (World.alloc_heap_new w _)
  have hI1 : I [] W1.heap.size W1 := by rw [hsz1, ← hW1]; exact (hI _).alloc (s := []) _ ((hI _).alloc (s := []) _ h0)
  have hb1 : Below w0.heap.size w0 W1 := by
    rw [← hW1]; exact hb0.trans ((((Below.refl _ w).alloc (Nat.le_refl _) _).alloc (by simp) _).mono hb0.size)
  refine ⟨w.heap.size + 1, [{ target := .collected w.heap.size, args := #[] }], W1, { target := .fn (.func gf) lb, args := #[.func (.yield (w.heap.size + 1)) #[] #[]] }, W1, gf,
    #[.func (.yield (w.heap.size + 1)) #[] #[]] ++ lb, W1, ?_, ?_, ?_, ?_, fun _ => h1, ?_⟩
  · rw [← hW1, hrec]; exact run_enterLoop_outer _ _ _ _ _
  · simp only [resolve, hg]
    simp [go_sem]
  · intro f' hf'; simp [Target.leads] at hf'; subst hf'; exact hFg
  · simp [invoke, go_sem, eg]
  · have hkeep : ∀ {A B : World} {o : Obj} {k : Nat}, A.grownBy B none → A.heap[k]? = some o → B.heap[k]? = some o := fun hg' hk =>
      (hg'.block _ (Array.getElem?_eq_some_iff.1 hk).1 (by simp)).trans hk
    refine (hseq (w.heap.size + 1)
      (fun pre M W => w.heap.size + 2 ≤ M ∧ I pre M W ∧ W.heap[w.heap.size + 1]? = some (.loop (rec .ready none)) ∧ W.heap[w.heap.size]? = some (.deferred (some [])))
      (fun pre W => ∃ c, Ix c pre W ∧ W.heap[w.heap.size + 1]? = some (.loop (rec .done (some c))) ∧ W.heap[w.heap.size]? = some (.deferred (some [])))
      W1 hb1
      (fun s M A B hs hg' => ⟨hs.1, hI M s A B none hs.2.1 hg' (fun r e => by cases e), hkeep hg' hs.2.2.1, hkeep hg' hs.2.2.2⟩)
      ?_ ⟨by omega, hI1, hL1, hK1⟩).mono ?_
    · -- one round
      rintro pre x M W ⟨hM2, hi, hl, hk⟩ hMW hlen
      have hlt : w.heap.size + 1 < W.heap.size := (Array.getElem?_eq_some_iff.1 hl).1
      have hy := run_yield (P := P) (args := encs x) hl (by rw [hrec]; exact hps x)
      rw [hrec] at hy
      -- the loop's variable in its box
      obtain ⟨Wa, hWa⟩ : ∃ Wa, W.alloc (.cells (bx x) bt) = Wa := ⟨_, rfl⟩
      have hga : W.grownBy Wa none := by rw [← hWa]; exact World.grownBy_alloc W _ none
      have hsa : Wa.heap.size = W.heap.size + 1 := by rw [← hWa]; simp
      have hba : Wa.heap[W.heap.size]? = some (.cells (bx x) bt (0, 0)) := by rw [← hWa]; exact World.alloc_heap_new W _
      have hla : Wa.heap[w.heap.size + 1]? = some (.loop (rec .ready none)) := hkeep hga hl
      have hka : Wa.heap[w.heap.size]? = some (.deferred (some [])) := hkeep hga hk
      have hia : I pre M Wa := hI M pre W Wa none hi hga (fun r e => by cases e)
      refine ⟨fn, _, assign, body, hy, roundIn_of_wpIn hfn (hassign _ x W _ ?_)⟩
      rw [hWa]
      refine ⟨_, run_beginRound hla (by rw [hrec]), ?_⟩
      obtain ⟨W2, hW2⟩ : ∃ W2, Wa.putObj (w.heap.size + 1) (.loop { rec .ready none with state := .busy }) = W2 := ⟨_, rfl⟩
      have hlta : w.heap.size + 1 < Wa.heap.size := by omega
      have hl2 : W2.heap[w.heap.size + 1]? = some (.loop { rec .ready none with state := .busy }) := by rw [← hW2]; exact World.putObj_heap_same hlta
      have ho2 : ∀ k, k ≠ w.heap.size + 1 → W2.heap[k]? = Wa.heap[k]? := fun k hk => by rw [← hW2]; exact World.putObj_heap_other (by omega)
      have hk2 : W2.heap[w.heap.size]? = some (.deferred (some [])) := (ho2 _ (by omega)).trans hka
      have hs2 : W2.heap.size = Wa.heap.size := by rw [← hW2]; simp
      have hi2 : I pre M W2 := by rw [← hW2]; exact (hI M).putObj (s := pre) _ hia (by omega) hla rfl
      have hbox2 : W2.heap[W.heap.size]? = some (.cells (bx x) bt (0, 0)) := (ho2 _ (by omega)).trans hba
      have hgoal := hbody (w.heap.size + 1) pre x M W.heap.size W2 hi2 hMW hM2 (by omega) hbox2 hlen
      rw [hW2]
      refine wpIn_mono hgoal ?_
      have fin : ∀ (jump : Option Code) (W3 : World), KeepsOthers W2 W3 →
          (Instr.endRound (w.heap.size + 1) jump).run P W3 = .ok (.bool jump.isNone) (W3.putObj (w.heap.size + 1) (.loop (rec (if jump.isNone then .ready else .done) jump))) ∧
          W3.heap[w.heap.size + 1]? = some (.loop { rec .ready none with state := .busy }) ∧
          (W3.putObj (w.heap.size + 1) (.loop (rec (if jump.isNone then .ready else .done) jump))).heap[w.heap.size + 1]? = some (.loop (rec (if jump.isNone then .ready else .done) jump)) ∧
          (W3.putObj (w.heap.size + 1) (.loop (rec (if jump.isNone then .ready else .done) jump))).heap[w.heap.size]? = some (.deferred (some [])) := fun jump W3 hk3 => by
        have hl3 := hk3.same _ _ hl2 rfl
        have := run_endRound (P := P) jump hl3
        rw [hrec] at this ⊢
        exact ⟨this, by rw [hrec] at hl3; exact hl3, World.putObj_heap_same (Array.getElem?_eq_some_iff.1 hl3).1, (World.putObj_heap_other (by omega)).trans (hk3.same _ _ hk2 rfl)⟩
      rintro e a3 W3 hp
      cases e with
      | normal =>
        obtain ⟨hk3, hb3, hsame, hi3⟩ := hp
        obtain ⟨hr, hl3, hl4, hk4⟩ := fin none W3 hk3
        refine ⟨_, _, hr, .inl ⟨rfl, ⟨W3.heap.size, by simp, by have := hk3.size; omega, (hI _).putObj (s := pre ++ [x]) _ hi3 (by omega) hl3 rfl, hl4, hk4⟩, ?_, ?_⟩⟩
        · refine ⟨by have := hk3.size; simp; omega, fun k hk => ?_⟩
          have hkw := hKb k hk
          have e1 : (W3.putObj (w.heap.size + 1) (.loop (rec (if (none : Option Code).isNone then .ready else .done) none))).heap[k]? = W3.heap[k]? := World.putObj_heap_other (by omega)
          rw [e1, hb3 k hk, ho2 k (by omega), hga.block k (by omega) (by simp)]
        · intro k hMk hkW
          have e1 : (W3.putObj (w.heap.size + 1) (.loop (rec (if (none : Option Code).isNone then .ready else .done) none))).heap[k]? = W3.heap[k]? := World.putObj_heap_other (by omega)
          rw [e1, hsame k hMk hkW, ho2 k (by omega), hga.block k hkW (by simp)]
      | ret =>
        obtain ⟨hk3, hi3⟩ := hp
        obtain ⟨hr, hl3, hl4, hk4⟩ := fin (some .ret) W3 hk3
        exact ⟨_, _, hr, .inr ⟨rfl, .ret, (hIx _).putObj _ hi3 (by omega) hl3 rfl, hl4, hk4⟩⟩
      | exit id =>
        obtain ⟨hk3, hi3⟩ := hp
        obtain ⟨hr, hl3, hl4, hk4⟩ := fin (some (.exit id)) W3 hk3
        exact ⟨_, _, hr, .inr ⟨rfl, .exit id, (hIx _).putObj _ hi3 (by omega) hl3 rfl, hl4, hk4⟩⟩
      | goto t =>
        obtain ⟨hk3, hi3⟩ := hp
        obtain ⟨hr, hl3, hl4, hk4⟩ := fin (some (.goto t)) W3 hk3
        exact ⟨_, _, hr, .inr ⟨rfl, .goto t, (hIx _).putObj _ hi3 (by omega) hl3 rfl, hl4, hk4⟩⟩
      | panic ch => exact hp.elim
      | outgrown => exact hp.elim
    · rintro e W2 ⟨⟨v, rfl⟩, (⟨xs, M, hS, hM2, hi, hl, hk⟩ | ⟨pre, hSp, c, hi, hl, hk⟩)⟩
      · exact ⟨none, _, by have := run_endLoop (P := P) hl (by rw [hrec]; simp); rw [hrec] at this; exact this, hdone _ xs M _ (Nat.le_refl _) hS ((hI M).putObj (s := xs) _ hi (by omega) hl rfl) ((World.putObj_heap_other (by omega)).trans hk)⟩
      · exact ⟨some c, _, by have := run_endLoop (P := P) hl (by rw [hrec]; simp); rw [hrec] at this; exact this, hstop _ c pre _ (Nat.le_refl _) hSp ((hIx c).putObj _ hi (by omega) hl rfl) ((World.putObj_heap_other (by omega)).trans hk)⟩
end Cdk
