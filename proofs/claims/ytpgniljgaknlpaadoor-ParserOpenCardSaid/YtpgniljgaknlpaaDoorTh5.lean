import Derived.Test.YtpgniljgaknlpaaDoorTh4
/-
  The theory of the parser, in plain Lean: what is accepted is valid, and is printed within a bound.
-/
namespace Tpl

def ktLen (x : KT) : Nat := tkLen ⟨x.1, x.2, 0⟩
def ktOk (x : KT) : Bool := tkOk ⟨x.1, x.2, 0⟩
/-- A space is wanted between a name and a name or a number. -/
def gp (p k : Nat) : Nat := if p = 2 ∧ (k = 2 ∨ k = 3) then 1 else 0
def wt : Nat → List KT → Nat
  | _, [] => 0
  | p, x :: r => gp p x.1 + ktLen x + wt x.1 r
def chn : Nat → List KT → Bool
  | _, [] => true
  | p, x :: r => !(decide (p = 1) && decide (x.1 = 1)) && chn x.1 r

theorem wt_zero (p : Nat) (r : List KT) : wt 0 r ≤ wt p r := by
  cases r with
  | nil => simp [wt]
  | cons x r => simp [wt, gp]
theorem wt_app : ∀ (a b : List KT) (p : Nat), wt p a + wt 0 b ≤ wt p (a ++ b)
  | [], b, p => by simpa [wt] using wt_zero p b
  | x :: a, b, p => by
    have := wt_app a b x.1
    simp only [List.cons_append, wt]
    omega
theorem chn_app : ∀ (a b : List KT) (p : Nat), chn p (a ++ b) = true → chn p a = true ∧ ∃ q, chn q b = true
  | [], b, p, h => ⟨rfl, p, h⟩
  | x :: a, b, p, h => by
    simp only [List.cons_append, chn, Bool.and_eq_true] at h ⊢
    obtain ⟨h1, q, h2⟩ := chn_app a b x.1 h.2
    exact ⟨⟨h.1, h1⟩, q, h2⟩
theorem chn_cons {p : Nat} {x : KT} {r : List KT} (h : chn p (x :: r) = true) : chn x.1 r = true := by
  simp only [chn, Bool.and_eq_true] at h
  exact h.2

mutual
/-- The number of loops. -/
def lpN : Nd → Nat
  | .mk k _ _ _ _ _ ks es => (if k = 3 then 1 else 0) + lpL ks + lpL es
def lpL : List Nd → Nat
  | [] => 0
  | x :: r => lpN x + lpL r
end

theorem gp_le (p k : Nat) : gp p k ≤ 1 := by unfold gp; split <;> omega

/-! ### The lexer's tokens -/
theorem scan_good : ∀ (f : Nat) (s : Bs) (off : Nat) (tag : Option Nat) (p : Nat), s.length + 1 ≤ f → (∀ t ∈ scan f s off tag, t.kind ≠ 0) → (p = 1 → tag = none ∧ (s = [] ∨ opn s = true)) → (p = 2 → tag ≠ none) →
    (∀ t ∈ scan f s off tag, ktOk (kt t) = true) ∧ chn p ((scan f s off tag).map kt) = true ∧ (¬ p = 2 ∨ noH isW s = true → wt p ((scan f s off tag).map kt) ≤ s.length) ∧ wt p ((scan f s off tag).map kt) ≤ s.length + 1
  | 0, _, _, _, _, h, _, _, _ => by omega
  | f + 1, [], off, none, p, _, _, _, _ => ⟨by simp [scan], by simp [scan, chn], by simp [scan, wt], by simp [scan, wt]⟩
  | f + 1, [], off, some tag, p, _, hn, _, _ => by
    have := hn ⟨0, [], tag⟩ (by simp [scan])
    exact absurd rfl this
  | f + 1, c :: r, off, none, p, hf, hn, hp, hp2 => by
    simp only [List.length_cons] at hf
    have hp2' : ¬ p = 2 := fun e => hp2 e rfl
    have hg : ∀ k, gp p k = 0 := fun k => by unfold gp; rw [if_neg (fun h => hp2' h.1)]
    rw [scan_none] at hn ⊢
    by_cases ho : opn (c :: r) = true
    · rw [if_pos ho] at hn ⊢
      simp only [List.forall_mem_cons] at hn
      obtain ⟨h1, h2, h3, h4⟩ := scan_good f r (off + 1) (some off) 6 (by omega) hn.2 (fun h => by omega) (fun h => by omega)
      have h3 := h3 (.inl (by omega))
      simp only [List.forall_mem_cons, List.map_cons, chn, wt, List.length_cons]
      refine ⟨⟨by simp [ktOk, kt, tkOk], h1⟩, by simp [kt, h2], fun _ => ?_, ?_⟩
      · rw [hg]; simp only [kt, ktLen, tkLen]; simp; omega
      · rw [hg]; simp only [kt, ktLen, tkLen]; simp; omega
    · rw [if_neg ho] at hn ⊢
      have ho' : opn (c :: r) = false := by simpa using ho
      by_cases hok : (lit (c :: r)).2.2.2 = true
      · rw [if_pos hok] at hn ⊢
        obtain ⟨g1, g2, g3, g4⟩ := lit_inv _ hok
        have g5 := lit_len (c :: r)
        have g6 := lit_pos ho' hok
        simp only [List.length_cons] at g5
        simp only [List.forall_mem_cons] at hn
        obtain ⟨h1, h2, h3, h4⟩ := scan_good f (lit (c :: r)).2.2.1 (off + (lit (c :: r)).2.1) none 1 (by omega) hn.2 (fun _ => ⟨rfl, g3⟩) (fun h => by omega)
        have h3 := h3 (.inl (by omega))
        have hne : (lit (c :: r)).1 ≠ [] := by
          intro e
          rw [e] at g4
          simp [esc] at g4
          omega
        simp only [List.forall_mem_cons, List.map_cons, chn, wt, List.length_cons]
        refine ⟨⟨?_, h1⟩, ?_, fun _ => ?_, ?_⟩
        · simp [ktOk, kt, tkOk, txOk, g2, hne]
        · have hp1 : ¬ p = 1 := fun e => by
            rcases (hp e).2 with h | h
            · simp at h
            · exact ho h
          simp [kt, h2, hp1]
        · rw [hg]; simp only [kt, ktLen, tkLen]; simp; omega
        · rw [hg]; simp only [kt, ktLen, tkLen]; simp; omega
      · rw [if_neg hok] at hn
        exact absurd rfl (hn _ (List.mem_singleton.2 rfl))
  | f + 1, c :: r, off, some tag, p, hf, hn, hp, hp2 => by
    simp only [List.length_cons] at hf
    have hp1 : ¬ p = 1 := fun e => by simpa using (hp e).1
    rw [scan_some] at hn ⊢
    by_cases hs : c.toNat = 32 ∨ c.toNat = 10
    · rw [if_pos hs] at hn ⊢
      obtain ⟨h1, h2, h3, h4⟩ := scan_good f r (off + 1) (some tag) p (by omega) hn (fun e => absurd e hp1) (fun _ => by simp)
      simp only [List.length_cons]
      exact ⟨h1, h2, fun _ => h4, by omega⟩
    · rw [if_neg hs] at hn ⊢
      cases hq : part c r with
      | none =>
        rw [hq] at hn
        simp only at hn
        exact absurd rfl (hn _ (List.mem_singleton.2 rfl))
      | some q =>
        obtain ⟨k, w, n, t⟩ := q
        rw [hq] at hn
        simp only at hn ⊢
        obtain ⟨g1, g2, g3, g4, g5, g6, g7, g8⟩ := part_inv hq
        simp only [List.forall_mem_cons] at hn
        obtain ⟨h1, h2, h3, h4⟩ := scan_good f t (off + n) (if k = 7 then none else some tag) k (by omega) hn.2 (fun h => by omega) (fun h => by rw [if_neg (by omega)]; simp)
        have h3 := h3 (by by_cases h2 : k = 2; exact .inr (g6 h2); exact .inl h2)
        have hk1 : ¬ k = 1 := by omega
        have e := g2 0
        simp only [List.forall_mem_cons, List.map_cons, chn, wt, List.length_cons]
        refine ⟨⟨e.1, h1⟩, by simp [kt, h2, hp1], fun hh => ?_, ?_⟩
        · have : gp p (kt ⟨k, w, off⟩).1 = 0 := by
            unfold gp
            rw [if_neg]
            rintro ⟨e1, e2⟩
            rcases hh with hh | hh
            · exact hh e1
            · have := g8 e2
              simp [noH, this] at hh
          rw [this]
          simp only [kt, ktLen]
          rw [e.2]; omega
        · have := gp_le p (kt ⟨k, w, off⟩).1
          simp only [kt, ktLen] at this ⊢
          rw [e.2]; omega

theorem lexS_good {s : Bs} (h : ∀ t ∈ lexS s 0 none, t.kind ≠ 0) : (∀ x ∈ (lexS s 0 none).map kt, ktOk x = true) ∧ chn 0 ((lexS s 0 none).map kt) = true ∧ wt 0 ((lexS s 0 none).map kt) ≤ s.length := by
  obtain ⟨h1, h2, h3, -⟩ := scan_good (s.length + 1) s 0 none 0 (by omega) h (fun h => by omega) (fun h => by omega)
  refine ⟨?_, h2, h3 (.inl (by omega))⟩
  intro x hx
  obtain ⟨t, ht, rfl⟩ := List.mem_map.1 hx
  exact h1 t ht

theorem len5 (o : Bs) : ktLen (5, o) = 1 := rfl
theorem len6 (o : Bs) : ktLen (6, o) = 1 := rfl
theorem len7 (o : Bs) : ktLen (7, o) = 1 := rfl
theorem len2 (n : Bs) : ktLen (2, n) = n.length := rfl
theorem len3 (n : Bs) : ktLen (3, n) = n.length := rfl
theorem len4 (n : Bs) : ktLen (4, n) = n.length + 2 := rfl
theorem gp22 : gp 2 2 = 1 := rfl
theorem gp23 : gp 2 3 = 1 := rfl
theorem gp43 : gp 4 3 = 0 := rfl
theorem wFor_len : wFor.length = 3 := rfl
theorem wIf_len : wIf.length = 2 := rfl
theorem wElse_len : wElse.length = 4 := rfl
theorem wEnd_len : wEnd.length = 3 := rfl
theorem wInc_len : wInclude.length = 7 := rfl

/-! ### Valid nodes -/
theorem Flt.good {k : List KT} {f : List Bs} (h : Flt k f) : (∀ x ∈ k, ktOk x = true) → f.all nameOk = true ∧ ∀ p, (f.flatMap (fun x => 124 :: x)).length ≤ wt p k := by
  induction h with
  | nil => intro _; exact ⟨rfl, fun p => by simp⟩
  | @cons p x k f hk ih =>
    intro ho
    simp only [List.forall_mem_cons] at ho
    obtain ⟨h1, h2⟩ := ih ho.2.2
    have hx : nameOk x = true := ho.2.1
    refine ⟨by simp [hx, h1], fun q => ?_⟩
    have := h2 2
    simp only [List.flatMap_cons, List.length_append, List.length_cons, wt, len5, len2]
    omega

theorem kw_of {n : Bs} (a : ¬ (n = wElse ∨ n = wEnd)) (b : ¬ (n = wFor ∨ n = wIf)) (c : ¬ n = wInclude) : isKw n = false := by
  unfold isKw
  simp only [not_or] at a b
  simp [a.1, a.2, b.1, b.2, c]

theorem argLen (a : Bs) : ((if a.isEmpty = true then [] else [32, 34] ++ (a ++ [34])) : Bs).length ≤ a.length + 3 := by split <;> simp
theorem argLen0 : ((if ([] : Bs).isEmpty = true then [] else [32, 34] ++ (([] : Bs) ++ [34])) : Bs).length = 0 := rfl
theorem cntLen {w : Bs} (h : (dec (num w).toNat).length ≤ w.length) : ((if num w = 0 then [] else 32 :: dec (num w).toNat) : Bs).length ≤ w.length + 1 := by split <;> simp; exact h
theorem cntLen0 : ((if (0 : Int) = 0 then [] else 32 :: dec (0 : Int).toNat) : Bs).length = 0 := rfl

theorem args_good {ka kc : List KT} {a : Bs} {c : Int} (ha : ArgK ka a) (hc : CntK kc c) (h1 : ∀ x ∈ ka, ktOk x = true) (h2 : ∀ x ∈ kc, ktOk x = true) (b : List KT) :
    a.all isA = true ∧ 0 ≤ c ∧ c ≤ 999999 ∧ ((if a.isEmpty = true then [] else [32, 34] ++ (a ++ [34])) : Bs).length + ((if c = 0 then [] else 32 :: dec c.toNat) : Bs).length + wt 0 b ≤ wt 2 (ka ++ (kc ++ b)) + 2 := by
  cases ha with
  | no =>
    rw [argLen0]
    cases hc with
    | no =>
      rw [cntLen0]
      refine ⟨rfl, by omega, by omega, ?_⟩
      have := wt_zero 2 b
      simp only [List.nil_append]; omega
    | yes w =>
      have hw : numOk w = true := h2 _ (List.mem_singleton.2 rfl)
      obtain ⟨e1, e2, e3, e4⟩ := numOk_num hw
      refine ⟨rfl, e1, e2, ?_⟩
      have := wt_zero 3 b
      have e5 := cntLen e3
      generalize ((if num w = 0 then [] else 32 :: dec (num w).toNat) : Bs).length = L at e5 ⊢
      simp only [List.nil_append, List.cons_append, wt, gp23, len3]
      omega
  | yes a =>
    have hA : a.all isA = true := h1 _ (List.mem_singleton.2 rfl)
    have e0 := argLen a
    generalize ((if a.isEmpty = true then [] else [32, 34] ++ (a ++ [34])) : Bs).length = M at e0 ⊢
    cases hc with
    | no =>
      rw [cntLen0]
      refine ⟨hA, by omega, by omega, ?_⟩
      have := wt_zero 4 b
      simp only [List.nil_append, List.cons_append, wt, len4]
      omega
    | yes w =>
      have hw : numOk w = true := h2 _ (List.mem_singleton.2 rfl)
      obtain ⟨e1, e2, e3, e4⟩ := numOk_num hw
      refine ⟨hA, e1, e2, ?_⟩
      have := wt_zero 3 b
      have e5 := cntLen e3
      generalize ((if num w = 0 then [] else 32 :: dec (num w).toNat) : Bs).length = L at e5 ⊢
      simp only [List.nil_append, List.cons_append, wt, len4, len3, gp43]
      omega

theorem PNs.good {d : Nat} {k : List KT} {l : List Nd} (h : PNs d k l) : (∀ x ∈ k, ktOk x = true) → ∀ p, chn p k = true → valL l d (decide (p = 1)) = true ∧ (formL l).length ≤ wt p k + 2 * lpL l ∧ 12 * lpL l ≤ wt p k := by
  induction h with
  | nil => intro _ p _; simp [valL, formL, wt, lpL]
  | @text d t k l hk ih =>
    intro ho p hc
    simp only [List.forall_mem_cons] at ho
    obtain ⟨h1, h2, h3⟩ := ih ho.2 1 (chn_cons hc)
    have hp : ¬ p = 1 := by
      simp only [chn, Bool.and_eq_true] at hc
      simpa using hc.1
    have ht : txOk t = true := ho.1
    refine ⟨?_, ?_, ?_⟩
    · simp only [valL, valN, Nd.kind]
      simp only [decide_true] at h1
      simp [hp, ht, h1]
    · simp only [formL, formN, wt, lpL, lpN, List.length_append]
      simp [ktLen, tkLen]
      omega
    · simp only [wt, lpL, lpN, ktLen, tkLen]
      simp
      omega
  | @field d o n kf c f k l a b c' hf hk ih =>
    intro ho p hc
    simp only [List.forall_mem_cons, List.forall_mem_append] at ho
    obtain ⟨-, hn, hof, -, hok⟩ := ho
    obtain ⟨q, hq⟩ := (chn_app kf _ _ (chn_cons (chn_cons hc))).2
    obtain ⟨h1, h2, h3⟩ := ih hok 7 (chn_cons hq)
    obtain ⟨g1, g2⟩ := hf.good hof
    have g2 := g2 2
    have g3 := wt_app kf ((7, c) :: k) 2
    have hn : nameOk n = true := hn
    simp only [wt, len7] at g3
    refine ⟨?_, ?_, ?_⟩
    · simp only [valL, valN, Nd.kind]
      simp only [decide_eq_false (show ¬ 7 = 1 by omega)] at h1
      simp [hn, kw_of a b c', g1, h1]
    · simp only [formL, formN, wt, lpL, lpN, List.length_append, len6, len2]
      simp only [if_neg (show ¬ 2 = 1 by omega), if_neg (show ¬ 2 = 3 by omega), if_true, List.length_cons, List.length_append, List.length_nil]
      omega
    · simp only [wt, lpL, lpN, len6, len2]
      simp only [if_neg (show ¬ 2 = 3 by omega)]
      omega
  | @incl d o m c k l hk ih =>
    intro ho p hc
    simp only [List.forall_mem_cons] at ho
    obtain ⟨-, -, hn, -, hok⟩ := ho
    obtain ⟨h1, h2, h3⟩ := ih hok 7 (chn_cons (chn_cons (chn_cons (chn_cons hc))))
    have hn : nameOk m = true := hn
    refine ⟨?_, ?_, ?_⟩
    · simp only [valL, valN, Nd.kind]
      simp only [decide_eq_false (show ¬ 7 = 1 by omega)] at h1
      simp [hn, h1]
    · simp only [formL, formN, wt, lpL, lpN, List.length_append, len6, len2, len7, gp22, wInc_len]
      simp [wInc_len]
      omega
    · simp only [wt, lpL, lpN, len6, len2]
      simp
      omega
  | @loop d o n ka a kc c c1 k0 ks o2 c2 k l hd ha hcc h0 hk ih0 ih =>
    intro ho p hc
    simp only [List.forall_mem_cons, List.forall_mem_append] at ho
    obtain ⟨-, -, hn, hoa, hoc, -, ho0, -, -, -, hok⟩ := ho
    obtain ⟨q, hq⟩ := (chn_app ka _ _ (chn_cons (chn_cons (chn_cons hc)))).2
    obtain ⟨q, hq⟩ := (chn_app kc _ _ hq).2
    obtain ⟨hq0, q, hq⟩ := (chn_app k0 _ _ (chn_cons hq))
    obtain ⟨h1, h2, h3⟩ := ih hok 7 (chn_cons (chn_cons (chn_cons hq)))
    obtain ⟨i1, i2, i3⟩ := ih0 ho0 7 hq0
    have hn : nameOk n = true := hn
    obtain ⟨g1, g2, g3, g4⟩ := args_good ha hcc hoa hoc ((7, c1) :: (k0 ++ (6, o2) :: (2, wEnd) :: (7, c2) :: k))
    have g5 := wt_app k0 ((6, o2) :: (2, wEnd) :: (7, c2) :: k) 7
    have hpos : 1 ≤ n.length := by obtain ⟨_, _, rfl, _⟩ := nameOk_head hn; simp
    have g7 := wt_app ka (kc ++ ((7, c1) :: (k0 ++ (6, o2) :: (2, wEnd) :: (7, c2) :: k))) 2
    have g8 := wt_app kc ((7, c1) :: (k0 ++ (6, o2) :: (2, wEnd) :: (7, c2) :: k)) 0
    simp only [wt, len6, len2, len7, wEnd_len] at g4 g5 g8
    refine ⟨?_, ?_, ?_⟩
    · simp only [valL, valN, Nd.kind]
      simp only [decide_eq_false (show ¬ 7 = 1 by omega)] at h1 i1
      simp [hn, h1, i1, g1, g2, g3, hd]
    · simp only [formL, formN, wt, lpL, lpN, List.length_append, len6, len2, gp22, wFor_len]
      simp only [if_neg (show ¬ 3 = 1 by omega), if_neg (show ¬ 3 = 2 by omega), if_true, List.length_cons, List.length_append, List.length_nil, wFor_len, wEnd_len]
      omega
    · simp only [wt, lpL, lpN, len6, len2, gp22, wFor_len, if_true]
      omega
  | @cond d o n c1 k0 ks o2 c2 k l hd h0 hk ih0 ih =>
    intro ho p hc
    simp only [List.forall_mem_cons, List.forall_mem_append] at ho
    obtain ⟨-, -, hn, -, ho0, -, -, -, hok⟩ := ho
    obtain ⟨hq0, q, hq⟩ := (chn_app k0 _ _ (chn_cons (chn_cons (chn_cons (chn_cons hc)))))
    obtain ⟨h1, h2, h3⟩ := ih hok 7 (chn_cons (chn_cons (chn_cons hq)))
    obtain ⟨i1, i2, i3⟩ := ih0 ho0 7 hq0
    have hn : nameOk n = true := hn
    have g5 := wt_app k0 ((6, o2) :: (2, wEnd) :: (7, c2) :: k) 7
    simp only [wt, len6, len2, len7, wEnd_len] at g5
    refine ⟨?_, ?_, ?_⟩
    · simp only [valL, valN, Nd.kind]
      simp only [decide_eq_false (show ¬ 7 = 1 by omega)] at h1 i1
      simp [hn, h1, i1, hd]
    · simp only [formL, formN, wt, lpL, lpN, List.length_append, len6, len2, len7, gp22, wIf_len]
      simp only [if_neg (show ¬ 4 = 1 by omega), if_neg (show ¬ 4 = 2 by omega), if_neg (show ¬ 4 = 3 by omega), if_true, List.length_cons, List.length_append, List.length_nil, wIf_len, wEnd_len, List.isEmpty_nil]
      omega
    · simp only [wt, lpL, lpN, len6, len2, gp22, wIf_len, if_neg (show ¬ 4 = 3 by omega)]
      omega
  | @conde d o n c1 k0 ks o2 c2 k1 es o3 c3 k l hd h0 h01 hk ih0 ih1 ih =>
    intro ho p hc
    simp only [List.forall_mem_cons, List.forall_mem_append] at ho
    obtain ⟨-, -, hn, -, ho0, -, -, -, ho1, -, -, -, hok⟩ := ho
    obtain ⟨hq0, q, hq⟩ := (chn_app k0 _ _ (chn_cons (chn_cons (chn_cons (chn_cons hc)))))
    obtain ⟨hq1, q, hq⟩ := (chn_app k1 _ _ (chn_cons (chn_cons (chn_cons hq))))
    obtain ⟨h1, h2, h3⟩ := ih hok 7 (chn_cons (chn_cons (chn_cons hq)))
    obtain ⟨i1, i2, i3⟩ := ih0 ho0 7 hq0
    obtain ⟨j1, j2, j3⟩ := ih1 ho1 7 hq1
    have hn : nameOk n = true := hn
    have g5 := wt_app k0 ((6, o2) :: (2, wElse) :: (7, c2) :: (k1 ++ (6, o3) :: (2, wEnd) :: (7, c3) :: k)) 7
    have g6 := wt_app k1 ((6, o3) :: (2, wEnd) :: (7, c3) :: k) 7
    simp only [wt, len6, len2, len7, wEnd_len, wElse_len] at g5 g6
    have e0 : ((if es.isEmpty = true then [] else 123 :: (wElse ++ (125 :: formL es))) : Bs).length ≤ (formL es).length + 6 := by
      split
      · simp
      · simp [wElse_len]; omega
    refine ⟨?_, ?_, ?_⟩
    · simp only [valL, valN, Nd.kind]
      simp only [decide_eq_false (show ¬ 7 = 1 by omega)] at h1 i1 j1
      simp [hn, h1, i1, j1, hd]
    · simp only [formL, formN, wt, lpL, lpN, List.length_append, len6, len2, len7, gp22, wIf_len]
      simp only [if_neg (show ¬ 4 = 1 by omega), if_neg (show ¬ 4 = 2 by omega), if_neg (show ¬ 4 = 3 by omega), if_true, List.length_cons, List.length_append, List.length_nil, wIf_len, wEnd_len]
      omega
    · simp only [wt, lpL, lpN, len6, len2, gp22, wIf_len, if_neg (show ¬ 4 = 3 by omega)]
      omega

/-- What is accepted is valid, and is printed within a bound. -/
theorem parse_good {s : Bs} {l : List Nd} (h : parse s = .ok l) : valL l 0 false = true ∧ (formL l).length ≤ s.length + 2 * lpL l ∧ 12 * lpL l ≤ s.length := by
  obtain ⟨-, hp⟩ := parse_inv h
  have hn : ∀ t ∈ lexS s 0 none, t.kind ≠ 0 := fun t ht => hp.ne (kt t) (List.mem_map_of_mem ht)
  obtain ⟨h1, h2, h3⟩ := lexS_good hn
  obtain ⟨g1, g2, g3⟩ := hp.good h1 0 h2
  exact ⟨g1, by omega, by omega⟩
end Tpl
