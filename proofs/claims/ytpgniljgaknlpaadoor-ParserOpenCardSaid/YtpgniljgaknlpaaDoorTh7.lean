import Derived.Test.YtpgniljgaknlpaaDoorTh6
/-
  The theory of the parser, in plain Lean: where errors are reported.
-/
namespace Tpl
variable {size : Nat}

theorem bind_err {α β : Type} {x : Except Nat α} {g : α → Except Nat β} {b : Nat} (h : (x >>= g) = .error b) : x = .error b ∨ ∃ a, x = .ok a ∧ g a = .error b := by
  cases x with
  | error e => rw [err_bind] at h; injection h with h; subst h; exact .inl rfl
  | ok a => exact .inr ⟨a, rfl, h⟩

/-- The offsets are bounded. -/
def Bd (B : Nat) (ts : List Tk) : Prop := ∀ t ∈ ts, t.off ≤ B

theorem Bd.tail {B : Nat} {t : Tk} {ts : List Tk} (h : Bd B (t :: ts)) : Bd B ts := fun x hx => h x (List.mem_cons_of_mem _ hx)
theorem Bd.app {B : Nat} {a b : List Tk} (h : Bd B (a ++ b)) : Bd B b := fun x hx => h x (List.mem_append_right _ hx)

theorem need_bd {B k : Nat} {ts : List Tk} {a : Nat} (h : need size k ts = .error a) (hB : Bd B ts) (hs : size ≤ B) : a ≤ B := by
  cases ts with
  | nil => rw [need] at h; injection h with h; omega
  | cons t r =>
    rw [need] at h
    split at h
    · simp at h
    · injection h with h
      have := hB t (by simp)
      omega
theorem need_rest {B k : Nat} {ts r : List Tk} {t : Tk} (h : need size k ts = .ok (t, r)) (hB : Bd B ts) : Bd B r := by
  obtain ⟨rfl, -⟩ := need_inv h
  exact hB.tail

theorem filters_bd {B : Nat} : ∀ (f : Nat) (ts : List Tk) (acc : List Bs) (a : Nat), filtersS size f ts acc = .error a → Bd B ts → size ≤ B → a ≤ B
  | 0, _, _, a, h, _, _ => by rw [filtersS] at h; injection h with h; omega
  | f + 1, [], acc, a, h, _, _ => by simp [filtersS] at h
  | f + 1, t :: r, acc, a, h, hB, hs => by
    rw [filtersS] at h
    simp only at h
    split at h
    · replace h := bind_err h; rcases h with h | ⟨⟨n, r'⟩, hn, h⟩
      · exact need_bd h hB.tail hs
      · exact filters_bd f _ _ a h (need_rest hn hB.tail) hs
    · simp at h

theorem argP_rest {B : Nat} {r r' : List Tk} {x : Bs} (h : argP r = .ok (x, r')) (hB : Bd B r) : Bd B r' := by
  unfold argP at h
  split at h
  · split at h
    · injection h with h; injection h with _ h; subst h; exact hB.tail
    · injection h with h; injection h with _ h; subst h; exact hB
  · injection h with h; injection h with _ h; subst h; exact hB
theorem argP_ok (r : List Tk) : ∃ p, argP r = .ok p := by
  unfold argP
  split
  · split <;> exact ⟨_, rfl⟩
  · exact ⟨_, rfl⟩
theorem cntP_rest {B : Nat} {r r' : List Tk} {x : Int} (h : cntP r = .ok (x, r')) (hB : Bd B r) : Bd B r' := by
  unfold cntP at h
  split at h
  · split at h
    · injection h with h; injection h with _ h; subst h; exact hB.tail
    · injection h with h; injection h with _ h; subst h; exact hB
  · injection h with h; injection h with _ h; subst h; exact hB
theorem cntP_ok (r : List Tk) : ∃ p, cntP r = .ok p := by
  unfold cntP
  split
  · split <;> exact ⟨_, rfl⟩
  · exact ⟨_, rfl⟩

theorem EndS.rest {B : Nat} {ws : List Bs} {t0 t1 rest : List Tk} {w : Bs} (h : EndS ws t1 rest w) (hB : Bd B (t0 ++ t1)) : Bd B rest := by
  rcases h with ⟨-, -, rfl, -⟩ | ⟨o, n, c, rfl, -⟩
  · intro x hx; simp at hx
  · exact hB.app.tail.tail.tail

theorem listS_bd {B : Nat} (hs : size ≤ B) : ∀ (f d : Nat) (ws : List Bs) (ts : List Tk) (acc : List Nd) (a : Nat), d ≤ 8 → listS size f d ws ts acc = .error a → Bd B ts → a ≤ B := by
  intro f
  induction f using Nat.strongRecOn with
  | _ f IH =>
  intro d ws ts acc a hd h hB
  match f, IH, h with
  | 0, _, h => rw [listS] at h; injection h with h; omega
  | f + 1, IH, h =>
    match ts, h, hB with
    | [], h, _ =>
      rw [listS] at h
      split at h
      · simp at h
      · injection h with h; omega
    | t :: r, h, hB =>
      have ht := hB t (by simp)
      by_cases h1 : t.kind = 1
      · rw [listS_text h1] at h
        exact IH f (by omega) d ws r _ a hd h hB.tail
      · by_cases h6 : t.kind = 6
        · have hh : need size 2 r = .error a ∨ ∃ n r2, r = n :: r2 ∧ n.kind = 2 := by
            rw [listS] at h
            simp only [if_neg h1] at h
            rw [need_ok h6, ok_bind] at h
            simp only at h
            replace h := bind_err h; rcases h with h | ⟨⟨n, r2⟩, hn, -⟩
            · exact .inl h
            · obtain ⟨e1, h2⟩ := need_inv hn
              exact .inr ⟨n, r2, e1, h2⟩
          rcases hh with h | ⟨n, r2, rfl, h2⟩
          · exact need_bd h hB.tail hs
          · have hn := hB n (by simp)
            have hB2 := hB.tail.tail
            rw [listS_tag h6 h2, tagS_eq] at h
            split at h
            · split at h
              · replace h := bind_err h; rcases h with h | ⟨_, -, h⟩
                · exact need_bd h hB2 hs
                · simp at h
              · injection h with h; omega
            · split at h
              · split at h
                · injection h with h; omega
                · replace h := bind_err h; rcases h with h | ⟨⟨nd, r3⟩, hb, h⟩
                  · split at h
                    · match f, IH, h with
                      | 0, _, h => rw [loopS] at h; injection h with h; omega
                      | f + 1, IH, h =>
                        rw [loopS_eq] at h
                        replace h := bind_err h; rcases h with h | ⟨⟨m, q1⟩, g1, h⟩
                        · exact need_bd h hB2 hs
                        · replace h := bind_err h; rcases h with h | ⟨⟨x, q2⟩, g2, h⟩
                          · obtain ⟨p, e⟩ := argP_ok q1; rw [e] at h; simp at h
                          · replace h := bind_err h; rcases h with h | ⟨⟨y, q3⟩, g3, h⟩
                            · obtain ⟨p, e⟩ := cntP_ok q2; rw [e] at h; simp at h
                            · have b3 := cntP_rest g3 (argP_rest g2 (need_rest g1 hB2))
                              replace h := bind_err h; rcases h with h | ⟨⟨z, q4⟩, g4, h⟩
                              · exact need_bd h b3 hs
                              · replace h := bind_err h; rcases h with h | ⟨_, -, h⟩
                                · exact IH f (by omega) (d + 1) _ _ _ a (by omega) h (need_rest g4 b3)
                                · simp at h
                    · match f, IH, h with
                      | 0, _, h => rw [condS] at h; injection h with h; omega
                      | f + 1, IH, h =>
                        rw [condS] at h
                        replace h := bind_err h; rcases h with h | ⟨⟨m, q1⟩, g1, h⟩
                        · exact need_bd h hB2 hs
                        · simp only at h
                          have b1 := need_rest g1 hB2
                          replace h := bind_err h; rcases h with h | ⟨⟨m, q2⟩, g2, h⟩
                          · exact need_bd h b1 hs
                          · simp only at h
                            have b2 := need_rest g2 b1
                            replace h := bind_err h; rcases h with h | ⟨⟨ks, w, q3⟩, g3, h⟩
                            · exact IH f (by omega) (d + 1) _ _ _ a (by omega) h b2
                            · simp only at h
                              split at h
                              · replace h := bind_err h; rcases h with h | ⟨_, -, h⟩
                                · obtain ⟨l0, u0, u1, -, rfl, -, he⟩ := listS_inv f (d + 1) _ q2 _ _ _ _ (by omega) g3
                                  exact IH f (by omega) (d + 1) _ _ _ a (by omega) h (he.rest b2)
                                · simp at h
                              · simp at h
                  · simp only at h
                    refine IH f (by omega) d ws r3 _ a hd h ?_
                    split at hb
                    · match f, hb with
                      | 0, hb => simp [loopS] at hb
                      | f + 1, hb =>
                        obtain ⟨m, ta, x, tc, y, c1, us, ks, w', rfl, -, -, -, -, hl, -⟩ := loopS_inv hb
                        obtain ⟨l0, u0, u1, -, rfl, -, he⟩ := listS_inv f (d + 1) _ us _ _ _ _ (by omega) hl
                        exact he.rest hB2.tail.app.app.tail
                    · match f, hb with
                      | 0, hb => simp [condS] at hb
                      | f + 1, hb =>
                        obtain ⟨m, c1, us, ks, w', r1, rfl, -, -, hl, hr⟩ := condS_inv hb
                        obtain ⟨l0, u0, u1, -, rfl, -, he⟩ := listS_inv f (d + 1) _ us _ _ _ _ (by omega) hl
                        have b1 := he.rest hB2.tail.tail
                        rcases hr with ⟨-, es, w2, hl2, -⟩ | ⟨-, rfl, -⟩
                        · obtain ⟨l0, u0, u1, -, rfl, -, he⟩ := listS_inv f (d + 1) _ r1 _ _ _ _ (by omega) hl2
                          exact he.rest b1
                        · exact b1
              · split at h
                · replace h := bind_err h; rcases h with h | ⟨⟨m, r3⟩, hm, h⟩
                  · exact need_bd h hB2 hs
                  · have b3 := need_rest hm hB2
                    replace h := bind_err h; rcases h with h | ⟨⟨c, r4⟩, hc, h⟩
                    · exact need_bd h b3 hs
                    · exact IH f (by omega) d ws r4 _ a hd h (need_rest hc b3)
                · replace h := bind_err h; rcases h with h | ⟨⟨fl, r3⟩, hf, h⟩
                  · exact filters_bd f _ _ a h hB2 hs
                  · obtain ⟨tf, fl', rfl, -, -⟩ := filtersS_inv f _ _ _ _ hf
                    replace h := bind_err h; rcases h with h | ⟨⟨c, r4⟩, hc, h⟩
                    · exact need_bd h hB2.app hs
                    · exact IH f (by omega) d ws r4 _ a hd h (need_rest hc hB2.app)
        · rw [listS] at h
          simp only [if_neg h1] at h
          replace h := bind_err h; rcases h with h | ⟨⟨o, r1⟩, ho, -⟩
          · exact need_bd h hB hs
          · exact absurd (by obtain ⟨e1, e2⟩ := need_inv ho; injection e1 with e1 _; rw [e1]; exact e2) h6

theorem scan_off : ∀ (f : Nat) (s : Bs) (off : Nat) (tag : Option Nat), s.length + 1 ≤ f → (∀ t, tag = some t → t ≤ off) → Bd (off + s.length) (scan f s off tag)
  | 0, _, _, _, h, _ => by omega
  | f + 1, [], off, none, _, _ => by intro x hx; simp [scan] at hx
  | f + 1, [], off, some tag, _, h => by
    intro x hx
    simp only [scan, List.mem_singleton] at hx
    subst hx
    have := h tag rfl
    simp; omega
  | f + 1, c :: r, off, none, hf, _ => by
    simp only [List.length_cons] at hf
    rw [scan_none]
    split
    · have := scan_off f r (off + 1) (some off) (by omega) (fun t e => by injection e with e; omega)
      intro x hx
      rcases List.mem_cons.1 hx with rfl | hx
      · simp
      · have := this x hx; simp only [List.length_cons]; omega
    · rename_i ho
      have h5 := lit_len (c :: r)
      simp only [List.length_cons] at h5
      split
      · rename_i hok
        have h6 := lit_pos (by simpa using ho) hok
        have := scan_off f (lit (c :: r)).2.2.1 (off + (lit (c :: r)).2.1) none (by omega) (fun t e => by simp at e)
        intro x hx
        rcases List.mem_cons.1 hx with rfl | hx
        · simp
        · have := this x hx; simp only [List.length_cons]; omega
      · intro x hx
        simp only [List.mem_singleton] at hx
        subst hx
        simp only [List.length_cons]; omega
  | f + 1, c :: r, off, some tag, hf, ht => by
    simp only [List.length_cons] at hf
    have htg := ht tag rfl
    rw [scan_some]
    split
    · have := scan_off f r (off + 1) (some tag) (by omega) (fun t e => by injection e with e; omega)
      intro x hx
      have := this x hx; simp only [List.length_cons]; omega
    · split
      · intro x hx
        simp only [List.mem_singleton] at hx
        subst hx
        simp
      · rename_i k w n t hq
        obtain ⟨g1, g2, g3, g4, g5, g6, g7, g8⟩ := part_inv hq
        have := scan_off f t (off + n) (if k = 7 then none else some tag) (by omega) (fun t e => by split at e; simp at e; injection e with e; omega)
        intro x hx
        rcases List.mem_cons.1 hx with rfl | hx
        · simp
        · have := this x hx; simp only [List.length_cons]; omega

/-- Where errors are reported. -/
theorem parse_bad {s : Bs} {a : Nat} {k : Int} (h : parse s = .error (a, k)) (hl : s.length ≤ 1000) : (k = 90 ∨ k = 100) ∧ a ≤ s.length := by
  have hoff := scan_off (s.length + 1) s 0 none (Nat.le_refl _) (fun t e => by simp at e)
  rw [Nat.zero_add] at hoff
  unfold parse at h
  split at h
  · rename_i o ht
    injection h with h; injection h with h1 h2
    subst h1
    unfold tokens at ht
    rw [if_neg (by omega)] at ht
    simp only at ht
    split at ht
    · rename_i t hf
      injection ht with ht
      have := hoff t (List.mem_of_find?_eq_some hf)
      exact ⟨.inl h2.symm, by omega⟩
    · simp at ht
  · rename_i ts ht
    obtain ⟨-, rfl, -⟩ := tokens_inv ht
    split at h
    · rename_i o ho
      injection h with h; injection h with h1 h2
      subst h1
      exact ⟨.inr h2.symm, listS_bd (Nat.le_refl _) _ 0 _ _ _ _ (by omega) ho hoff⟩
    · simp at h

/-- What the law of the canonical form wants. -/
theorem canon {s : Bs} {l : List Nd} (h : parse s = .ok l) (hl : s.length ≤ 800) : Tpl.print l = some (formL l) ∧ parse (formL l) = .ok l ∧ (formL l).length ≤ s.length + 2 * lpL l ∧ (formL l).length ≤ 1000 ∧ lpL l ≤ 1000 := by
  obtain ⟨h1, h2, h3⟩ := parse_good h
  have hb : (formL l).length ≤ 1000 := by omega
  refine ⟨?_, parse_form h1 hb, h2, hb, by omega⟩
  unfold Tpl.print
  rw [h1, decide_eq_true hb]
  rfl
end Tpl
