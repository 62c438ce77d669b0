/-
  A region that draws its order, walked in ONE order that is named beforehand: an operation marked true yields the same value in every world of the class C, one marked false is the only one that may come up next.
-/
import Derived.Test.YtpgniljgaknlpaaDoorAppend
namespace Cdk
open Go Go.RowKit

def schedOk (md : Region.Mode) (ops : Array Oper) : List (Nat × Bool) → Array Bool → Bool
  | [], listed => (Region.ready md ops listed).isEmpty
  | (i, true) :: r, listed => (Region.ready md ops listed).contains i && Region.free md ops listed i && schedOk md ops r (listed.setIfInBounds i true)
  | (i, false) :: r, listed => Region.ready md ops listed == [i] && schedOk md ops r (listed.setIfInBounds i true)

section
variable {P : Program} {ops : Array Oper} {C : World → Prop} {Q : Exit → Act → World → Prop}

def wpS (P : Program) (ops : Array Oper) (C : World → Prop) (Q : Exit → Act → World → Prop) : List (Oper × Bool) → Act → World → Prop
  | [], a, w => Q .normal a w
  | (o, true) :: r, a, w => ∃ v, YieldsIf P ops C o v a ∧ wpS P ops C Q r (a.put o.dst v) w
  | (o, false) :: r, a, w =>
    if Region.wanted o (yielded ops a.tmps) = true then o.wp P a w (fun a' w' => C w' ∧ wpS P ops C Q r a' w') Q else wpS P ops C Q r (a.put o.dst undef) w

def schedOps (ops : List Oper) (sch : List (Nat × Bool)) : List (Oper × Bool) := sch.map fun p => (ops.getD p.1 default, p.2)

theorem wpS_sound {md : Region.Mode} {l : List Oper} (hno : Region.noSelect l.toArray = true) (hQ : ∀ c a d v w, Q (.panic c) (Act.put a d v) w → Q (.panic c) a w) :
    ∀ (sch : List (Nat × Bool)) (fuel : Nat) (listed : Array Bool) (a : Act) (w : World), sch.length ≤ fuel → schedOk md l.toArray sch listed = true → C w →
      wpS P l.toArray C Q (schedOps l sch) a w → wpAnyH P md l.toArray Q C fuel listed a w
  | [], fuel, listed, a, w, _, hok, hC, h => by
    simp only [schedOk, List.isEmpty_iff] at hok
    exact wpAnyH_done hok h fuel
  | (i, true) :: r, 0, listed, a, w, hf, hok, hC, h => by simp at hf
  | (i, false) :: r, 0, listed, a, w, hf, hok, hC, h => by simp at hf
  | (i, true) :: r, fuel + 1, listed, a, w, hf, hok, hC, h => by
    simp only [schedOk, Bool.and_eq_true] at hok
    obtain ⟨⟨hr, hfree⟩, hok⟩ := hok
    obtain ⟨v, hy, h⟩ := h
    have hi : l.toArray[i]? = some (l.getD i default) := by
      have hm : i ∈ Region.ready md l.toArray listed := by simpa using hr
      have : i < l.length := by
        simp only [Region.ready, List.mem_filter, List.mem_range] at hm
        simpa using hm.1
      simp [List.getD, this]
    exact wpAnyH_take hi hno hfree hr (fun c a w h => hQ c a _ v w h) hy hC (wpS_sound hno hQ r fuel _ _ _ (by simpa using hf) hok hC h)
  | (i, false) :: r, fuel + 1, listed, a, w, hf, hok, hC, h => by
    simp only [schedOk, Bool.and_eq_true, beq_iff_eq] at hok
    obtain ⟨hr, hok⟩ := hok
    refine wpAnyH_all hr (by simp) ?_
    intro j hj
    simp at hj
    subst hj
    have hi : l.toArray[j]? = some (l.getD j default) := by
      have hm : j ∈ Region.ready md l.toArray listed := by rw [hr]; simp
      have : j < l.length := by
        simp only [Region.ready, List.mem_filter, List.mem_range] at hm
        simpa using hm.1
      simp [List.getD, this]
    unfold wpOp
    simp only [hi]
    simp only [schedOps, List.map_cons, wpS] at h
    by_cases hw : Region.wanted (l.getD j default) (yielded l.toArray a.tmps) = true
    · rw [if_pos hw] at h ⊢
      exact .inl (Oper.wp_mono (fun a' w' ⟨hC', h'⟩ => ⟨hC', wpS_sound hno hQ r fuel _ _ _ (by simpa using hf) hok hC' h'⟩) h)
    · rw [if_neg hw] at h ⊢
      exact ⟨hC, wpS_sound hno hQ r fuel _ _ _ (by simpa using hf) hok hC h⟩

/-- THE LAW. sch: the order, each number with its mark. -/
theorem wp_region_sched {id : Nat} {l : List Oper} {a : Act} {w : World} (C : World → Prop) (sch : List (Nat × Bool)) (hm : P.follows .mixedOrders = true)
    (hno : Region.noSelect l.toArray = true) (hok : schedOk .any l.toArray sch (Array.replicate l.length false) = true) (hlen : sch.length ≤ l.length)
    (hC : C w.drew) (h : wpS P l.toArray C (NoPanic Q) (schedOps l sch) a w.drew) : (Code.region id l.toArray true).wp P Q a w := by
  refine wp_region_noPanic (wp_region_held (S := C) hm ?_)
  have := wpS_sound (md := .any) hno (fun _ _ _ _ _ h => h) sch l.length (Array.replicate l.length false) a w.drew hlen hok hC h
  exact this

theorem wpS_nil {a : Act} {w : World} (h : Q .normal a w) : wpS P ops C (NoPanic Q) [] a w := h
theorem wpS_q {o : Oper} {r : List (Oper × Bool)} {a : Act} {w : World} (hg : Region.wanted o (yielded ops a.tmps) = true) (v : Value) (h1 : ∀ w', C w' → (execOp a.eval o).run P w' = .ok (.value v) w')
    (h2 : wpS P ops C Q r (a.put o.dst v) w) : wpS P ops C Q ((o, true) :: r) a w := ⟨v, .inl ⟨hg, h1⟩, h2⟩
theorem wpS_no {o : Oper} {r : List (Oper × Bool)} {a : Act} {w : World} {b : Bool} (hg : Region.wanted o (yielded ops a.tmps) = false) (h2 : wpS P ops C Q r (a.put o.dst undef) w) : wpS P ops C Q ((o, b) :: r) a w := by
  cases b
  · simp only [wpS, hg]; exact h2
  · exact ⟨undef, .inr ⟨hg, rfl⟩, h2⟩
/-- The way back into the region, closed to the walk. -/
theorem wpS_c {o : Oper} {r : List (Oper × Bool)} {a : Act} {w : World} (hg : Region.wanted o (yielded ops a.tmps) = true)
    (h : ∀ K : Act → World → Prop, Hid (∀ a' w', C w' → wpS P ops C Q r a' w' → K a' w') → o.wp P a w K Q) : wpS P ops C Q ((o, false) :: r) a w := by
  simp only [wpS, hg, if_true]
  exact h _ (fun a' w' h1 h2 => ⟨h1, h2⟩)

end
end Cdk
