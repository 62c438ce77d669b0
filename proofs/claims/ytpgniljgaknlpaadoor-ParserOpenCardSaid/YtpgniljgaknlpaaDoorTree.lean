/-
  A region that draws its order, walked along a TREE of orders that is named beforehand: a node says which quiet operation is taken next, or all operations that may come up next; a class of worlds may be made narrower on the way.
-/
import Derived.Test.YtpgniljgaknlpaaDoorSched
namespace Cdk
open Go Go.RowKit

inductive Tr
  | done
  | q (i : Nat) (t : Tr)
  | c1 (i : Nat) (t : Tr)
  | c2 (i : Nat) (t : Tr) (j : Nat) (u : Tr)
  | c3 (i : Nat) (t : Tr) (j : Nat) (u : Tr) (k : Nat) (v : Tr)
  | s (t : Tr)

def trOk (md : Region.Mode) (ops : Array Oper) : Tr → Array Bool → Bool
  | .done, L => (Region.ready md ops L).isEmpty
  | .q i t, L => (Region.ready md ops L).contains i && Region.free md ops L i && trOk md ops t (L.setIfInBounds i true)
  | .c1 i t, L => Region.ready md ops L == [i] && trOk md ops t (L.setIfInBounds i true)
  | .c2 i t j u, L => Region.ready md ops L == [i, j] && trOk md ops t (L.setIfInBounds i true) && trOk md ops u (L.setIfInBounds j true)
  | .c3 i t j u k v, L => Region.ready md ops L == [i, j, k] && trOk md ops t (L.setIfInBounds i true) && trOk md ops u (L.setIfInBounds j true) && trOk md ops v (L.setIfInBounds k true)
  | .s t, L => trOk md ops t L

def trLen : Tr → Nat
  | .done => 0
  | .q _ t => trLen t + 1
  | .c1 _ t => trLen t + 1
  | .c2 _ t _ u => max (trLen t) (trLen u) + 1
  | .c3 _ t _ u _ v => max (trLen t) (max (trLen u) (trLen v)) + 1
  | .s t => trLen t

section
variable {P : Program} {Q : Exit → Act → World → Prop}

def wpN (P : Program) (ops : Array Oper) (C : World → Prop) (Q : Exit → Act → World → Prop) (o : Oper) (R : Act → World → Prop) (a : Act) (w : World) : Prop :=
  if Region.wanted o (yielded ops a.tmps) = true then o.wp P a w (fun a' w' => C w' ∧ R a' w') Q else R (a.put o.dst undef) w

def wpTr (P : Program) (l : List Oper) (Q : Exit → Act → World → Prop) : Tr → (World → Prop) → Act → World → Prop
  | .done, _, a, w => Q .normal a w
  | .q i t, C, a, w => ∃ v, YieldsIf P l.toArray C (l.getD i default) v a ∧ wpTr P l Q t C (a.put (l.getD i default).dst v) w
  | .c1 i t, C, a, w => wpN P l.toArray C Q (l.getD i default) (wpTr P l Q t C) a w
  | .c2 i t j u, C, a, w => wpN P l.toArray C Q (l.getD i default) (wpTr P l Q t C) a w ∧ wpN P l.toArray C Q (l.getD j default) (wpTr P l Q u C) a w
  | .c3 i t j u k v, C, a, w => wpN P l.toArray C Q (l.getD i default) (wpTr P l Q t C) a w ∧ wpN P l.toArray C Q (l.getD j default) (wpTr P l Q u C) a w ∧ wpN P l.toArray C Q (l.getD k default) (wpTr P l Q v C) a w
  | .s t, C, a, w => ∃ C' : World → Prop, (∀ w', C' w' → C w') ∧ C' w ∧ wpTr P l Q t C' a w

theorem wpAnyH_mono {md : Region.Mode} {ops : Array Oper} {C C' : World → Prop} (hC : ∀ w, C' w → C w) : ∀ (fuel : Nat) (L : Array Bool) (a : Act) (w : World), wpAnyH P md ops Q C' fuel L a w → wpAnyH P md ops Q C fuel L a w
  | 0, _, _, _, h => h
  | fuel + 1, _, _, _, h => ⟨h.1, fun i hi => wpOp_mono (fun _ _ h' => ⟨hC _ h'.1, wpAnyH_mono hC fuel _ _ _ h'.2⟩) (h.2 i hi)⟩

theorem wpN_op {md : Region.Mode} {l : List Oper} {L : Array Bool} {C : World → Prop} {i : Nat} {R R' : Act → World → Prop} {a : Act} {w : World} (hm : i ∈ Region.ready md l.toArray L) (hC : C w) (h : wpN P l.toArray C Q (l.getD i default) R a w)
    (hR : ∀ a' w', C w' → R a' w' → R' a' w') : wpOp P l.toArray Q i (fun a' w' => C w' ∧ R' a' w') a w := by
  have hi : l.toArray[i]? = some (l.getD i default) := by
    have : i < l.length := by
      simp only [Region.ready, List.mem_filter, List.mem_range] at hm
      simpa using hm.1
    simp [List.getD, this]
  unfold wpOp
  simp only [hi]
  unfold wpN at h
  by_cases hw : Region.wanted (l.getD i default) (yielded l.toArray a.tmps) = true
  · rw [if_pos hw] at h ⊢
    exact .inl (Oper.wp_mono (fun a' w' ⟨hC', h'⟩ => ⟨hC', hR a' w' hC' h'⟩) h)
  · rw [if_neg hw] at h ⊢
    exact ⟨hC, hR _ _ hC h⟩

theorem wpTr_sound {md : Region.Mode} {l : List Oper} (hno : Region.noSelect l.toArray = true) (hQ : ∀ c a d v w, Q (.panic c) (Act.put a d v) w → Q (.panic c) a w) :
    ∀ (t : Tr) (C : World → Prop) (fuel : Nat) (L : Array Bool) (a : Act) (w : World), trLen t ≤ fuel → trOk md l.toArray t L = true → C w → wpTr P l Q t C a w → wpAnyH P md l.toArray Q C fuel L a w
  | .done, C, fuel, L, a, w, _, hok, _, h => by
    simp only [trOk, List.isEmpty_iff] at hok
    exact wpAnyH_done hok h fuel
  | .s t, C, fuel, L, a, w, hf, hok, _, h => by
    obtain ⟨C', h1, h2, h3⟩ := h
    exact wpAnyH_mono h1 fuel L a w (wpTr_sound hno hQ t C' fuel L a w hf hok h2 h3)
  | .q i t, C, 0, L, a, w, hf, _, _, _ => by simp [trLen] at hf
  | .c1 i t, C, 0, L, a, w, hf, _, _, _ => by simp [trLen] at hf
  | .c2 i t j u, C, 0, L, a, w, hf, _, _, _ => by simp [trLen] at hf
  | .c3 i t j u k v, C, 0, L, a, w, hf, _, _, _ => by simp [trLen] at hf
  | .q i t, C, fuel + 1, L, a, w, hf, hok, hC, h => by
    simp only [trOk, Bool.and_eq_true] at hok
    obtain ⟨⟨hr, hfree⟩, hok⟩ := hok
    obtain ⟨v, hy, h⟩ := h
    have hi : l.toArray[i]? = some (l.getD i default) := by
      have hm : i ∈ Region.ready md l.toArray L := by simpa using hr
      have : i < l.length := by
        simp only [Region.ready, List.mem_filter, List.mem_range] at hm
        simpa using hm.1
      simp [List.getD, this]
    simp only [trLen] at hf
    exact wpAnyH_take hi hno hfree hr (fun c a w h => hQ c a _ v w h) hy hC (wpTr_sound hno hQ t C fuel _ _ _ (by omega) hok hC h)
  | .c1 i t, C, fuel + 1, L, a, w, hf, hok, hC, h => by
    simp only [trOk, Bool.and_eq_true, beq_iff_eq] at hok
    simp only [trLen] at hf
    refine wpAnyH_all hok.1 (by simp) ?_
    intro j hj
    simp only [List.mem_singleton] at hj
    subst hj
    exact wpN_op (by rw [hok.1]; simp) hC h (fun a' w' hC' h' => wpTr_sound hno hQ t C fuel _ _ _ (by omega) hok.2 hC' h')
  | .c2 i t j u, C, fuel + 1, L, a, w, hf, hok, hC, h => by
    simp only [trOk, Bool.and_eq_true, beq_iff_eq] at hok
    obtain ⟨⟨hr, h1⟩, h2⟩ := hok
    simp only [trLen] at hf
    refine wpAnyH_all hr (by simp) ?_
    intro x hx
    simp only [List.mem_cons, List.not_mem_nil, or_false] at hx
    rcases hx with rfl | rfl
    · exact wpN_op (by rw [hr]; simp) hC h.1 (fun a' w' hC' h' => wpTr_sound hno hQ t C fuel _ _ _ (by omega) h1 hC' h')
    · exact wpN_op (by rw [hr]; simp) hC h.2 (fun a' w' hC' h' => wpTr_sound hno hQ u C fuel _ _ _ (by omega) h2 hC' h')
  | .c3 i t j u k v, C, fuel + 1, L, a, w, hf, hok, hC, h => by
    simp only [trOk, Bool.and_eq_true, beq_iff_eq] at hok
    obtain ⟨⟨⟨hr, h1⟩, h2⟩, h3⟩ := hok
    simp only [trLen] at hf
    refine wpAnyH_all hr (by simp) ?_
    intro x hx
    simp only [List.mem_cons, List.not_mem_nil, or_false] at hx
    rcases hx with rfl | rfl | rfl
    · exact wpN_op (by rw [hr]; simp) hC h.1 (fun a' w' hC' h' => wpTr_sound hno hQ t C fuel _ _ _ (by omega) h1 hC' h')
    · exact wpN_op (by rw [hr]; simp) hC h.2.1 (fun a' w' hC' h' => wpTr_sound hno hQ u C fuel _ _ _ (by omega) h2 hC' h')
    · exact wpN_op (by rw [hr]; simp) hC h.2.2 (fun a' w' hC' h' => wpTr_sound hno hQ v C fuel _ _ _ (by omega) h3 hC' h')

/-- THE LAW. t: the tree. -/
theorem wp_region_tree {id : Nat} {l : List Oper} {a : Act} {w : World} (t : Tr) (hm : P.follows .mixedOrders = true)
    (hno : Region.noSelect l.toArray = true) (hok : trOk .any l.toArray t (Array.replicate l.length false) = true) (hlen : trLen t ≤ l.length)
    (h : wpTr P l (NoPanic Q) t (fun _ => True) a w.drew) : (Code.region id l.toArray true).wp P Q a w := by
  refine wp_region_noPanic (wp_region_held (S := fun _ => True) hm ?_)
  have := wpTr_sound (md := .any) hno (fun _ _ _ _ _ h => h) t (fun _ => True) l.length (Array.replicate l.length false) a w.drew hlen hok trivial h
  exact this

theorem wpTr_done {l : List Oper} {C : World → Prop} {a : Act} {w : World} (h : Q .normal a w) : wpTr P l (NoPanic Q) .done C a w := h
theorem wpTr_q {l : List Oper} {C : World → Prop} {i : Nat} {t : Tr} {a : Act} {w : World} (o : Oper) (ho : l.getD i default = o) (hg : Region.wanted o (yielded l.toArray a.tmps) = true) (v : Value) (h1 : ∀ w', C w' → (execOp a.eval o).run P w' = .ok (.value v) w')
    (h2 : wpTr P l Q t C (a.put o.dst v) w) : wpTr P l Q (.q i t) C a w := by
  subst ho
  exact ⟨v, .inl ⟨hg, h1⟩, h2⟩
theorem wpTr_s {l : List Oper} {C : World → Prop} {t : Tr} {a : Act} {w : World} (C' : World → Prop) (h1 : ∀ w', C' w' → C w') (h2 : C' w) (h3 : wpTr P l Q t C' a w) : wpTr P l Q (.s t) C a w := ⟨C', h1, h2, h3⟩
/-- The way back into the region, closed to the walk. -/
theorem wpN_c {ops : Array Oper} {C : World → Prop} {o : Oper} {R : Act → World → Prop} {a : Act} {w : World} (hg : Region.wanted o (yielded ops a.tmps) = true)
    (h : ∀ K : Act → World → Prop, Hid (∀ a' w', C w' → R a' w' → K a' w') → o.wp P a w K Q) : wpN P ops C Q o R a w := by
  unfold wpN
  rw [if_pos hg]
  exact h _ (fun a' w' h1 h2 => ⟨h1, h2⟩)
theorem wpTr_c1 {l : List Oper} {C : World → Prop} {i : Nat} {t : Tr} {a : Act} {w : World} (o : Oper) (ho : l.getD i default = o) (h : wpN P l.toArray C Q o (wpTr P l Q t C) a w) : wpTr P l Q (.c1 i t) C a w := by subst ho; exact h
theorem wpTr_c2 {l : List Oper} {C : World → Prop} {i j : Nat} {t u : Tr} {a : Act} {w : World} (o1 o2 : Oper) (ho1 : l.getD i default = o1) (ho2 : l.getD j default = o2) (h1 : wpN P l.toArray C Q o1 (wpTr P l Q t C) a w) (h2 : wpN P l.toArray C Q o2 (wpTr P l Q u C) a w) : wpTr P l Q (.c2 i t j u) C a w := by
  subst ho1; subst ho2; exact ⟨h1, h2⟩
theorem wpTr_c3 {l : List Oper} {C : World → Prop} {i j k : Nat} {t u v : Tr} {a : Act} {w : World} (o1 o2 o3 : Oper) (ho1 : l.getD i default = o1) (ho2 : l.getD j default = o2) (ho3 : l.getD k default = o3) (h1 : wpN P l.toArray C Q o1 (wpTr P l Q t C) a w) (h2 : wpN P l.toArray C Q o2 (wpTr P l Q u C) a w) (h3 : wpN P l.toArray C Q o3 (wpTr P l Q v C) a w) : wpTr P l Q (.c3 i t j u k v) C a w := by
  subst ho1; subst ho2; subst ho3; exact ⟨h1, h2, h3⟩
end
end Cdk
