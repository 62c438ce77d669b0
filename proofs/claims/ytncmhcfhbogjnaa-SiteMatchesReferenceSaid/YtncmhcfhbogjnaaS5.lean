import Derived.Test.YtncmhcfhbogjnaaS4
namespace Go.Proofs.Ytncmhcfhbogjnaa
open Go.RowKit Cdk

def pubT (l : List Pg) : Txt := l.map (fun p => (p.1, p.2.1))
/-- The new snapshot N, with the texts in tb, is class j's. -/
def pubSt (st : SiteSt) (j N tb : Nat) (d : Txt) : SiteSt :=
  { st with cur := fun k => if k = j then N else st.cur k, tm := fun p => if p = N then tb else st.tm p, txt := fun p => if p = N then d else st.txt p }
/-- What the sessions of class c whose numbers are in 'seen' read has been purged. -/
def purgedSt (st : SiteSt) (c : Int) (dn : Txt) (seen : List Int) : SiteSt :=
  { st with txt := fun p => if st.ses.any (fun q => decide (q.1 ∈ seen) && decide (q.2.1 = c) && decide (q.2.2 = p)) then purgeD (st.txt p) dn else st.txt p }

theorem SiteAt.publish {w w' : World} {F : Nat → Prop} {s : Nat} {st : SiteSt} (h : SiteAt w F s st) {j N tb : Nat} {d : Txt} (hj : j < 4) (hN : N = w.heap.size)
    (htb : MapAt w Value.string tb (d.map txtPair)) (hf : ¬ F tb) (hw : w' = (w.setCell ⟨s, j, none⟩ (snapV N)).alloc (.cells #[.map (some tb)] 65)) :
    SiteAt w' (fun k => F k ∨ k = tb ∨ k = N) s (pubSt st j N tb d) := by
  subst hN
  have hx1 : Mod (Eq s) w (w.setCell ⟨s, j, none⟩ (snapV w.heap.size)) := (Mod.refl (Eq s) _).setCell (fun _ => rfl) _
  have hx2 : Ext (w.setCell ⟨s, j, none⟩ (snapV w.heap.size)) w' := by rw [hw]; exact (Mod.refl _ _).alloc _
  have hx : Mod (Eq s) w w' := hx1.trans (hx2.mono (fun _ h => h.elim))
  have hltb := htb.lt
  have hNn : w.heap.size ≠ s := fun e => by have := h.lt s h.own.1; omega
  have hss : (w.setCell ⟨s, j, none⟩ (snapV w.heap.size)).heap.size = w.heap.size := by simp [World.setCell]
  have hnew : w'.heap[w.heap.size]? = some (.cells #[.map (some tb)] 65 (0, 0)) := by
    have := heap_alloc_new (w.setCell ⟨s, j, none⟩ (snapV w.heap.size)) (.cells #[.map (some tb)] 65)
    rw [hss] at this
    rw [hw]; exact this
  have hsz : w'.heap.size = w.heap.size + 1 := by rw [hw]; simp [World.setCell]
  have hlive : ∀ p, (pubSt st j w.heap.size tb d).live p → p = w.heap.size ∨ st.live p := by
    rintro p (⟨c, hc, rfl⟩ | ⟨q, hq, rfl⟩)
    · by_cases e : c = j
      · left; simp [pubSt, e]
      · right; simp only [pubSt, e, if_false]; exact .inl ⟨c, hc, rfl⟩
    · exact .inr (.inr ⟨q, hq, rfl⟩)
  have hold : ∀ p, st.live p → p ≠ w.heap.size := fun p hp e => by have := h.lt p (h.shot p hp).1; omega
  have hsm := h.ne_m
  have hstb : s ≠ tb := fun e => hf (e ▸ h.own.1)
  constructor
  · rintro k (hk | rfl | rfl)
    · have := h.lt k hk; omega
    · omega
    · omega
  · exact ⟨.inl h.own.1, .inl h.own.2⟩
  · refine hx2.at ?_ (fun h => h)
    rw [setCell_heap h.top]
    match j, hj with
    | 0, _ => rfl
    | 1, _ => rfl
    | 2, _ => rfl
    | 3, _ => rfl
    | j + 4, hj => omega
  · exact h.ses.mod hx hsm.1
  · intro p hp
    rcases hlive p hp with rfl | hp
    · refine ⟨.inr (.inr rfl), ?_, ?_, ?_, ?_⟩
      · simp [pubSt]
      · simp only [pubSt, if_true]; intro e; exact hf (e ▸ h.own.2)
      · simpa [pubSt] using hnew
      · simp only [pubSt, if_true]; exact htb.mod hx hstb
    · obtain ⟨a, b, c, dd, e⟩ := h.shot p hp
      have hpn := hold p hp
      simp only [pubSt, hpn, if_false]
      refine ⟨.inl a, .inl b, c, hx.at dd ?_, e.mod hx ?_⟩
      · intro e'; rw [← e', h.top] at dd; simp at dd
      · intro e'; obtain ⟨es, c, hh, _⟩ := e; have := h.top; rw [e', hh] at this; simp at this
  · intro p q hp hq
    rcases hlive p hp with rfl | hp <;> rcases hlive q hq with rfl | hq
    · intro _; rfl
    · simp only [pubSt, if_true, hold q hq, if_false]; intro e; exact absurd (e ▸ (h.shot q hq).2.1) hf
    · simp only [pubSt, if_true, hold p hp, if_false]; intro e; exact absurd (e ▸ (h.shot p hp).2.1) hf
    · simp only [pubSt, hold p hp, hold q hq, if_false]; exact h.apart p q hp hq

theorem look_pubD {d dn : Txt} : ∀ p ∈ purgeD d dn, look dn p.1 = some p.2 := by
  intro p hp
  unfold purgeD at hp
  obtain ⟨q, hq, he⟩ := List.mem_filterMap.1 hp
  obtain ⟨t, ht, rfl⟩ := Option.map_eq_some_iff.1 he
  exact ht
theorem purge_twice (d dn : Txt) : purgeD (purgeD d dn) dn = purgeD d dn := by
  have : ∀ l : Txt, (∀ p ∈ l, look dn p.1 = some p.2) → purgeD l dn = l := by
    intro l
    induction l with
    | nil => intro _; rfl
    | cons p l ih =>
      intro h
      have h0 := h p (by simp)
      simp only [purgeD, List.filterMap_cons, h0, Option.map_some]
      have := ih (fun q hq => h q (by simp [hq]))
      simp only [purgeD] at this
      rw [this]
  exact this _ look_pubD

theorem purgedSt_nil (st : SiteSt) (c : Int) (dn : Txt) : purgedSt st c dn [] = st := by
  unfold purgedSt; simp

/-- One snapshot's map alone has changed. -/
theorem SiteAt.withTxt {w w' : World} {F : Nat → Prop} {s : Nat} {st : SiteSt} (h : SiteAt w F s st) {p0 : Nat} (hl : st.live p0) (hx : Mod (Eq (st.tm p0)) w w') (d : Txt) (hm : MapAt w' Value.string (st.tm p0) (d.map txtPair))
    (txt' : Nat → Txt) (h1 : txt' p0 = d) (h2 : ∀ p, p ≠ p0 → st.live p → txt' p = st.txt p) : SiteAt w' F s { st with txt := txt' } := by
  obtain ⟨a0, b0, c0, d0, e0⟩ := h.shot p0 hl
  constructor
  · exact fun k hk => Nat.lt_of_lt_of_le (h.lt k hk) hx.size
  · exact h.own
  · refine hx.at h.top ?_
    intro e'; obtain ⟨es, c, hh, _⟩ := e0; have := h.top; rw [← e', hh] at this; simp at this
  · exact h.ses.mod hx c0
  · intro p hp
    obtain ⟨a, b, c, dd, e⟩ := h.shot p hp
    have hne : st.tm p0 ≠ p := by
      intro e'; obtain ⟨es, c, hh, _⟩ := e0; rw [← e', hh] at dd; simp at dd
    by_cases hpp : p = p0
    · subst hpp
      exact ⟨a, b, c, hx.at dd hne, by rw [show (({ st with txt := txt' } : SiteSt)).txt p = d from h1]; exact hm⟩
    · refine ⟨a, b, c, hx.at dd hne, ?_⟩
      rw [show (({ st with txt := txt' } : SiteSt)).txt p = st.txt p from h2 p hpp hp]
      exact e.mod hx (fun e' => hpp (h.apart p p0 hp hl e'.symm))
  · exact h.apart

theorem SiteAt.congr {w : World} {F : Nat → Prop} {s : Nat} {st : SiteSt} (h : SiteAt w F s st) (txt' : Nat → Txt) (he : ∀ p, st.live p → txt' p = st.txt p) : SiteAt w F s { st with txt := txt' } := by
  constructor
  · exact h.lt
  · exact h.own
  · exact h.top
  · exact h.ses
  · intro p hp
    obtain ⟨a, b, c, d, e⟩ := h.shot p hp
    exact ⟨a, b, c, d, by rw [show (({ st with txt := txt' } : SiteSt)).txt p = st.txt p from he p hp]; exact e⟩
  · exact h.apart
end Go.Proofs.Ytncmhcfhbogjnaa
