/-
  A region that draws its order and ends in ONE operation that waits for all others (a store): as in Sched, but that last operation may leave the class C.
-/
import Derived.Test.YtpgniljgaknlpaaGreatDoorSched
namespace Cdk
open Go Go.RowKit

/-- An operation that does not ask the world. -/
def pureOp (o : Oper) : Bool :=
  match o.op with
  | .move _ => true
  | .nilCheck _ => true
  | .fieldAddr _ _ _ => true
  | _ => false

/-- Operation j waits for all others that ask the world. -/
def lastOp (md : Region.Mode) (ops : Array Oper) (j : Nat) : Bool :=
  match ops[j]? with
  | some o => (List.range ops.size).all fun i => i == j || (ops[i]?.map pureOp).getD false || o.after.any (fun e => Region.binds md e && e.on == i)
  | none => false

section
variable {P : Program} {ops : Array Oper} {Q : Exit → Act → World → Prop} {md : Region.Mode} {S : World → Prop}

theorem lastOp_spec {j i : Nat} {oj oi : Oper} (h : lastOp md ops j = true) (hj : ops[j]? = some oj) (hi : ops[i]? = some oi) (hp : pureOp oi = false) (hne : j ≠ i) : ∃ e ∈ oj.after, Region.binds md e = true ∧ e.on = i := by
  unfold lastOp at h
  rw [hj] at h
  simp only [List.all_eq_true, List.mem_range, Bool.or_eq_true, beq_iff_eq] at h
  rcases h i (Array.getElem?_eq_some_iff.1 hi).1 with (h | h) | h
  · exact absurd h.symm hne
  · rw [hi] at h; simp [hp] at h
  · rw [Array.any_eq_true'] at h
    obtain ⟨e, he, h⟩ := h
    simp only [Bool.and_eq_true, beq_iff_eq] at h
    exact ⟨e, he, h.1, h.2⟩

def wpAnyL (P : Program) (md : Region.Mode) (ops : Array Oper) (Q : Exit → Act → World → Prop) (S : World → Prop) : Nat → Array Bool → Act → World → Prop
  | 0, listed, a, w => Region.ready md ops listed = [] ∧ Q .normal a w
  | fuel + 1, listed, a, w =>
    (Region.ready md ops listed = [] → Q .normal a w) ∧
    ∀ i ∈ Region.ready md ops listed, wpOp P ops Q i (fun a' w' => (S w → lastOp md ops i = true ∨ S w') ∧ wpAnyL P md ops Q S fuel (listed.setIfInBounds i true) a' w') a w

theorem wpAny_of_last : ∀ (fuel : Nat) (listed : Array Bool) (a : Act) (w : World), wpAnyL P md ops Q S fuel listed a w → wpAny P md ops Q fuel listed a w
  | 0, _, _, _, h => h
  | fuel + 1, _, _, _, h => ⟨h.1, fun i hi => wpOp_mono (fun a' w' h' => wpAny_of_last fuel _ a' w' h'.2) (h.2 i hi)⟩

theorem wpAnyL_first {i : Nat} {oi : Oper} {v : Value} (hi : ops[i]? = some oi) (hp : pureOp oi = false) (hsel : ∀ (j : Nat) (o : Oper) cs b, ops[j]? = some o → o.op ≠ .select cs b)
    (hQ : ∀ c a w, Q (.panic c) (a.put oi.dst v) w → Q (.panic c) a w) :
    ∀ (fuel : Nat) (listed : Array Bool) (a : Act) (w : World),
      (∀ j oj, ops[j]? = some oj → j ≠ i → listed.getD j true = false → (∀ e ∈ oj.after, Region.binds md e = true → e.on ≠ i) → oi.apart ops oj = true) →
      i ∈ Region.ready md ops listed → YieldsIf P ops S oi v a → S w →
      wpAnyL P md ops Q S fuel (listed.setIfInBounds i true) (a.put oi.dst v) w → wpAnyL P md ops Q S (fuel + 1) listed a w := by
  intro fuel
  induction fuel with
  | zero =>
    intro listed a w _ hr hy hS H
    refine ⟨fun h => (by rw [h] at hr; cases hr), fun j hj => ?_⟩
    by_cases hji : j = i
    · subst hji; exact hy.wpOp hi hS ⟨.inr, H⟩
    · have := ready_mono hj hji
      rw [H.1] at this
      cases this
  | succ fuel ih =>
    intro listed a w hfree hr hy hS H
    refine ⟨fun h => (by rw [h] at hr; cases hr), fun j hj => ?_⟩
    by_cases hji : j = i
    · subst hji; exact hy.wpOp hi hS ⟨.inr, H⟩
    · have h1 := H.2 j (ready_mono hj hji)
      obtain ⟨hjun, oj, hoj, hall⟩ := mem_ready.1 hj
      have hnot : ∀ e ∈ oj.after, Region.binds md e = true → e.on ≠ i := fun e he hb heq => by
        have h1 := hall e he hb
        have h0 := (mem_ready.1 hr).1
        rw [heq] at h1
        rcases Nat.lt_or_ge i listed.size with h' | h'
        · simp [h'] at h0 h1; rw [h0] at h1; cases h1
        · simp [Array.getElem?_eq_none h'] at h1
      have hnl : ∀ w' : World, (S w → lastOp md ops j = true ∨ S w') → S w' := fun w' h => by
        rcases h hS with h | h
        · obtain ⟨e, he, hb, ho⟩ := lastOp_spec h hoj hi hp hji
          exact absurd ho (hnot e he hb)
        · exact h
      have h2 := wpOp_putIf hoj (hfree j oj hoj hji hjun hnot) (fun cs b => hsel i oi cs b hi) (fun cs b => hsel j oj cs b hoj) hQ hy h1
      have hfree' : ∀ k ok, ops[k]? = some ok → k ≠ i → (listed.setIfInBounds j true).getD k true = false →
          (∀ e ∈ ok.after, Region.binds md e = true → e.on ≠ i) → oi.apart ops ok = true := fun k ok hk hki hun hno => by
        refine hfree k ok hk hki ?_ hno
        by_cases hjk : j = k
        · subst hjk; exact hjun
        · rw [getD_set_ne true hjk] at hun; exact hun
      refine wpOp_mono (fun a' w' h3 => ⟨fun _ => .inr (hnl w' h3.2.1), ih (listed.setIfInBounds j true) a' w' hfree' (ready_mono hr (Ne.symm hji)) h3.1 (hnl w' h3.2.1) ?_⟩) h2
      rw [Array.setIfInBounds_comm _ _ hji]
      exact h3.2.2

theorem wpAnyL_firstP {i : Nat} {oi : Oper} {v : Value} (hi : ops[i]? = some oi) (hsel : ∀ (j : Nat) (o : Oper) cs b, ops[j]? = some o → o.op ≠ .select cs b)
    (hQ : ∀ c a w, Q (.panic c) (a.put oi.dst v) w → Q (.panic c) a w) :
    ∀ (fuel : Nat) (listed : Array Bool) (a : Act) (w : World),
      (∀ j oj, ops[j]? = some oj → j ≠ i → listed.getD j true = false → (∀ e ∈ oj.after, Region.binds md e = true → e.on ≠ i) → oi.apart ops oj = true) →
      i ∈ Region.ready md ops listed → YieldsIf P ops (fun _ => True) oi v a →
      wpAnyL P md ops Q S fuel (listed.setIfInBounds i true) (a.put oi.dst v) w → wpAnyL P md ops Q S (fuel + 1) listed a w := by
  intro fuel
  induction fuel with
  | zero =>
    intro listed a w _ hr hy H
    refine ⟨fun h => (by rw [h] at hr; cases hr), fun j hj => ?_⟩
    by_cases hji : j = i
    · subst hji; exact hy.wpOp hi trivial ⟨.inr, H⟩
    · have := ready_mono hj hji
      rw [H.1] at this
      cases this
  | succ fuel ih =>
    intro listed a w hfree hr hy H
    refine ⟨fun h => (by rw [h] at hr; cases hr), fun j hj => ?_⟩
    by_cases hji : j = i
    · subst hji; exact hy.wpOp hi trivial ⟨.inr, H⟩
    · have h1 := H.2 j (ready_mono hj hji)
      obtain ⟨hjun, oj, hoj, hall⟩ := mem_ready.1 hj
      have hnot : ∀ e ∈ oj.after, Region.binds md e = true → e.on ≠ i := fun e he hb heq => by
        have h1 := hall e he hb
        have h0 := (mem_ready.1 hr).1
        rw [heq] at h1
        rcases Nat.lt_or_ge i listed.size with h' | h'
        · simp [h'] at h0 h1; rw [h0] at h1; cases h1
        · simp [Array.getElem?_eq_none h'] at h1
      have h2 := wpOp_putIf hoj (hfree j oj hoj hji hjun hnot) (fun cs b => hsel i oi cs b hi) (fun cs b => hsel j oj cs b hoj) hQ hy h1
      have hfree' : ∀ k ok, ops[k]? = some ok → k ≠ i → (listed.setIfInBounds j true).getD k true = false →
          (∀ e ∈ ok.after, Region.binds md e = true → e.on ≠ i) → oi.apart ops ok = true := fun k ok hk hki hun hno => by
        refine hfree k ok hk hki ?_ hno
        by_cases hjk : j = k
        · subst hjk; exact hjun
        · rw [getD_set_ne true hjk] at hun; exact hun
      refine wpOp_mono (fun a' w' h3 => ⟨h3.2.1, ih (listed.setIfInBounds j true) a' w' hfree' (ready_mono hr (Ne.symm hji)) h3.1 ?_⟩) h2
      rw [Array.setIfInBounds_comm _ _ hji]
      exact h3.2.2

theorem wpAnyL_take {i : Nat} {oi : Oper} {v : Value} {fuel : Nat} {listed : Array Bool} {a : Act} {w : World} (hi : ops[i]? = some oi)
    (hs : Region.noSelect ops = true) (hf : Region.free md ops listed i = true) (hr : (Region.ready md ops listed).contains i = true)
    (hQ : ∀ c a w, Q (.panic c) (a.put oi.dst v) w → Q (.panic c) a w) (hy : YieldsIf P ops (fun _ => True) oi v a ∨ (pureOp oi = false ∧ YieldsIf P ops S oi v a ∧ S w))
    (h : wpAnyL P md ops Q S fuel (listed.setIfInBounds i true) (a.put oi.dst v) w) : wpAnyL P md ops Q S (fuel + 1) listed a w :=
by
  rcases hy with hy | ⟨hp, hy, hS⟩
  · exact wpAnyL_firstP hi (Region.noSelect_spec hs) hQ fuel listed a w (Region.free_spec hi hf) (by simpa using hr) hy h
  · exact wpAnyL_first hi hp (Region.noSelect_spec hs) hQ fuel listed a w (Region.free_spec hi hf) (by simpa using hr) hy hS h

theorem wpAnyL_all {rs : List Nat} {fuel : Nat} {listed : Array Bool} {a : Act} {w : World} (hr : Region.ready md ops listed = rs) (hne : rs ≠ [])
    (h : ∀ i ∈ rs, wpOp P ops Q i (fun a' w' => (S w → lastOp md ops i = true ∨ S w') ∧ wpAnyL P md ops Q S fuel (listed.setIfInBounds i true) a' w') a w) : wpAnyL P md ops Q S (fuel + 1) listed a w :=
  ⟨fun h0 => absurd (hr ▸ h0) hne, hr ▸ h⟩

theorem wpAnyL_done {listed : Array Bool} {a : Act} {w : World} (hr : Region.ready md ops listed = []) (h : Q .normal a w) :
    ∀ fuel, wpAnyL P md ops Q S fuel listed a w
  | 0 => ⟨hr, h⟩
  | _ + 1 => ⟨fun _ => h, by rw [hr]; simp⟩
end

def schedOkL (md : Region.Mode) (ops : Array Oper) : List (Nat × Bool) → Array Bool → Bool
  | [], listed => (Region.ready md ops listed).isEmpty
  | (i, true) :: r, listed => (Region.ready md ops listed).contains i && Region.free md ops listed i && schedOkL md ops r (listed.setIfInBounds i true)
  | (i, false) :: r, listed => Region.ready md ops listed == [i] && (!r.isEmpty || lastOp md ops i) && schedOkL md ops r (listed.setIfInBounds i true)

section
variable {P : Program} {ops : Array Oper} {C : World → Prop} {Q : Exit → Act → World → Prop}

def wpT (P : Program) (ops : Array Oper) (C : World → Prop) (Q : Exit → Act → World → Prop) : List (Oper × Bool) → Act → World → Prop
  | [], a, w => Q .normal a w
  | (o, true) :: r, a, w => ∃ v, (YieldsIf P ops (fun _ => True) o v a ∨ (pureOp o = false ∧ YieldsIf P ops C o v a)) ∧ wpT P ops C Q r (a.put o.dst v) w
  | (o, false) :: r, a, w =>
    if Region.wanted o (yielded ops a.tmps) = true then o.wp P a w (fun a' w' => (r = [] ∨ C w') ∧ wpT P ops C Q r a' w') Q else wpT P ops C Q r (a.put o.dst undef) w

theorem wpT_sound {md : Region.Mode} {l : List Oper} (hno : Region.noSelect l.toArray = true) (hQ : ∀ c a d v w, Q (.panic c) (Act.put a d v) w → Q (.panic c) a w) :
    ∀ (sch : List (Nat × Bool)) (fuel : Nat) (listed : Array Bool) (a : Act) (w : World), sch.length ≤ fuel → schedOkL md l.toArray sch listed = true → C w →
      wpT P l.toArray C Q (schedOps l sch) a w → wpAnyL P md l.toArray Q C fuel listed a w
  | [], fuel, listed, a, w, _, hok, hC, h => by
    simp only [schedOkL, List.isEmpty_iff] at hok
    exact wpAnyL_done hok h fuel
  | (i, true) :: r, 0, listed, a, w, hf, hok, hC, h => by simp at hf
  | (i, false) :: r, 0, listed, a, w, hf, hok, hC, h => by simp at hf
  | (i, true) :: r, fuel + 1, listed, a, w, hf, hok, hC, h => by
    simp only [schedOkL, Bool.and_eq_true] at hok
    obtain ⟨⟨hr, hfree⟩, hok⟩ := hok
    obtain ⟨v, hy, h⟩ := h
    have hi : l.toArray[i]? = some (l.getD i default) := by
      have hm : i ∈ Region.ready md l.toArray listed := by simpa using hr
      have : i < l.length := by
        simp only [Region.ready, List.mem_filter, List.mem_range] at hm
        simpa using hm.1
      simp [List.getD, this]
    exact wpAnyL_take hi hno hfree hr (fun c a w h => hQ c a _ v w h) (hy.imp id (fun h => ⟨h.1, h.2, hC⟩)) (wpT_sound hno hQ r fuel _ _ _ (by simpa using hf) hok hC h)
  | (i, false) :: r, fuel + 1, listed, a, w, hf, hok, hC, h => by
    simp only [schedOkL, Bool.and_eq_true, beq_iff_eq] at hok
    obtain ⟨⟨hr, hlast⟩, hok⟩ := hok
    refine wpAnyL_all hr (by simp) ?_
    intro j hj
    simp at hj
    subst hj
    have hi : l.toArray[j]? = some (l.getD j default) := by
      have hm : j ∈ Region.ready md l.toArray listed := by rw [hr]; simp
      have : j < l.length := by
        simp only [Region.ready, List.mem_filter, List.mem_range] at hm
        simpa using hm.1
      simp [List.getD, this]
    unfold wpOp
    simp only [hi]
    simp only [schedOps, List.map_cons, wpT] at h
    by_cases hw : Region.wanted (l.getD j default) (yielded l.toArray a.tmps) = true
    · rw [if_pos hw] at h ⊢
      refine .inl (Oper.wp_mono (fun a' w' ⟨hC', h'⟩ => ⟨fun _ => hC'.imp (fun h0 => by cases r with | nil => simpa using hlast | cons x r => simp at h0) id, ?_⟩) h)
      cases r with
      | nil => exact wpAnyL_done (by simpa [schedOkL, List.isEmpty_iff] using hok) h' fuel
      | cons x r => exact wpT_sound hno hQ (x :: r) fuel _ _ _ (by simpa using hf) hok (hC'.resolve_left (by simp)) h'
    · rw [if_neg hw] at h ⊢
      exact ⟨.inr, wpT_sound hno hQ r fuel _ _ _ (by simpa using hf) hok hC h⟩

/-- THE LAW. sch: the order, each number with its mark. -/
theorem wp_region_schedE {id : Nat} {l : List Oper} {a : Act} {w : World} (C : World → Prop) (sch : List (Nat × Bool)) (hm : P.follows .mixedOrders = true)
    (hno : Region.noSelect l.toArray = true) (hok : schedOkL .any l.toArray sch (Array.replicate l.length false) = true) (hlen : sch.length ≤ l.length)
    (hC : C w.drew) (h : wpT P l.toArray C (NoPanic Q) (schedOps l sch) a w.drew) : (Code.region id l.toArray true).wp P Q a w := by
  refine wp_region_noPanic (wp_region_any hm (wpAny_of_last (S := C) _ _ _ _ ?_))
  have := wpT_sound (md := .any) hno (fun _ _ _ _ _ h => h) sch l.length (Array.replicate l.length false) a w.drew hlen hok hC h
  exact this

theorem wpT_nil {a : Act} {w : World} (h : Q .normal a w) : wpT P ops C (NoPanic Q) [] a w := h
theorem wpT_q {o : Oper} {r : List (Oper × Bool)} {a : Act} {w : World} (hp : pureOp o = false) (hg : Region.wanted o (yielded ops a.tmps) = true) (v : Value) (h1 : ∀ w', C w' → (execOp a.eval o).run P w' = .ok (.value v) w')
    (h2 : wpT P ops C Q r (a.put o.dst v) w) : wpT P ops C Q ((o, true) :: r) a w := ⟨v, .inr ⟨hp, .inl ⟨hg, h1⟩⟩, h2⟩
theorem wpT_p {o : Oper} {r : List (Oper × Bool)} {a : Act} {w : World} (_hp : pureOp o = true) (hg : Region.wanted o (yielded ops a.tmps) = true) (v : Value) (h1 : ∀ w', True → (execOp a.eval o).run P w' = .ok (.value v) w')
    (h2 : wpT P ops C Q r (a.put o.dst v) w) : wpT P ops C Q ((o, true) :: r) a w := ⟨v, .inl (.inl ⟨hg, h1⟩), h2⟩
theorem wpT_no {o : Oper} {r : List (Oper × Bool)} {a : Act} {w : World} {b : Bool} (hg : Region.wanted o (yielded ops a.tmps) = false) (h2 : wpT P ops C Q r (a.put o.dst undef) w) : wpT P ops C Q ((o, b) :: r) a w := by
  cases b
  · simp only [wpT, hg]; exact h2
  · exact ⟨undef, .inl (.inr ⟨hg, rfl⟩), h2⟩
/-- The way back into the region, closed to the walk. -/
theorem wpT_c {o : Oper} {r : List (Oper × Bool)} {a : Act} {w : World} (hg : Region.wanted o (yielded ops a.tmps) = true)
    (h : ∀ K : Act → World → Prop, Hid (∀ a' w', C w' → wpT P ops C Q r a' w' → K a' w') → o.wp P a w K Q) : wpT P ops C Q ((o, false) :: r) a w := by
  simp only [wpT, hg, if_true]
  exact h _ (fun a' w' h1 h2 => ⟨.inr h1, h2⟩)
/-- The last operation. -/
theorem wpT_e {o : Oper} {a : Act} {w : World} (hg : Region.wanted o (yielded ops a.tmps) = true)
    (h : ∀ K : Act → World → Prop, Hid (∀ a' w', Q .normal a' w' → K a' w') → o.wp P a w K (NoPanic Q)) : wpT P ops C (NoPanic Q) [(o, false)] a w := by
  simp only [wpT, hg, if_true]
  exact h _ (fun a' w' h1 => ⟨.inl trivial, h1⟩)

end
end Cdk
